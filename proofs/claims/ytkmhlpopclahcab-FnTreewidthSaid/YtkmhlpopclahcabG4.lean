/- Functions of the program as typed functions, and that the machine runs as they say (part 4). No further condition. -/
import Derived.Test.YtkmhlpopclahcabK4
import Derived.Test.YtkmhlpopclahcabKC
import Derived.Test.YtkmhlpopclahcabProg
import Derived.Test.YtkmhlpopclahcabChecked
import Derived.KernelRfl
import Derived.Test.YtkmhlpopclahcabG3
set_option linter.unusedVariables false
set_option linter.unusedSimpArgs false
namespace Go.Zq
open Go.Proofs Go.Shelf
def zoZ:AC:=(.cond (.t 16) .skip (.exit 0))
def zri:AC:=(.cond (.t 28) .skip (.exit 2))
def zm5:AC:=(.reg [] [jm 29 8,jv 30 (.bin .add (.t 29) (jn 1)),jm 8 30] [])
def zsO:AC:=(.seq (.block 3 (.reg [.clr [35]] [jm 31 7,jv 32 (.load (.ag [.s,.p]) (.t 1)),jm 33 6,jx 34 (.call (jf 38) [.t 32,.t 33]),jx 35 (.lit i0 0 []),jm 36 8,jx 37 (.call (jf 37) [.t 34,.t 35,.t 36]),jv 38 (.len (.t 37)),jx 39 (.call (jf 36) [.t 31,.t 38]),jm 7 39] [])) zm5)
def ziv:AC:=(.seq (.seq (.reg [] [jm 25 8,jm 26 6,jv 27 (.len (.t 26)),jv 28 (.bin .lss (.t 25) (.t 27))] []) zri) zsO)
def zsj:AC:=(.block 2 (.loop ziv))
def ziF:AC:=(.reg [] [jm 40 4,jm 41 7,jx 42 (.call (jf 39) [.t 40,.t 41]),jm 4 42] [])
def zpF:AC:=(.seq (.seq (.reg [] [jv 8 (.mov (jn 0))] []) zsj) ziF)
def zod:AC:=(.seq (.reg [] [jv 23 (.fld (.t 1) 0 0),jv 24 (.load .s (.t 23)),jm 7 24] []) zpF)
def zg5:AC:=(.reg [] [jm 17 5,jv 18 (.bin .add (.t 17) (jn 1)),jm 5 18] [])
def zn5:AC:=(.seq (.block 1 (.seq (.reg [] [jv 19 (.fld (.t 1) 0 0),jv 20 (.load .s (.t 19)),jm 21 5,jx 22 (.call (jf 32) [.t 20,.t 21]),jm 6 22] []) zod)) zg5)
def N3:AC:=(.seq (.seq (.reg [] [jm 12 5,jv 13 (.fld (.t 1) 0 0),jv 14 (.load .s (.t 13)),jv 15 (.bin .shl (jn 1) (.t 14)),jv 16 (.bin .lss (.t 12) (.t 15))] []) zoZ) zn5)
def zap:AC:=(.seq (.reg [] [jm 43 4,jm 2 43,jv 3 (.mov kt)] []) .ret)
def zm4:AC:=(.cond (.t 11) (.seq (.reg [] [jv 2 (.mov (jn 0)),jv 3 (.mov kf)] []) .ret) .skip)
def zm8:AC:=(.block 0 (.loop N3))
def zlF:AC:=(.seq (.seq (.reg [] [jv 5 (.mov (jn 1))] []) zm8) zap)
def znW:AC:=(.seq (.reg [] [jv 4 (.mov (jn (-1)))] []) zlF)
def znD:AC:=(.seq (.seq (.reg [] [jv 9 (.load (.ag [.s,.p]) (.t 1)),jx 10 (.call (jf 22) [.t 9]),jv 11 (.un .not (.t 10))] []) zm4) znW)
def A13:AC:=(.seq (.reg [.clr [1]] [jx 1 (.box (.t 0)),jv 2 (.mov (jn 0)),jv 3 (.mov kf)] []) znD)
def ztr:List An:=[⟨0,[.clr [1]],[],[],[]⟩,⟨12,[.clr [35]],[],[],[]⟩]
theorem c13:cC Try.prog Try.f13.ntmps ztr (Try.f13.body.getD .skip)=some A13:=by kernel_rfl
structure H13 (D:Den) (σ:Sig) (F:Nat):Prop where
 c22:C22 (D 22) F
 g22:σ 22=some (0,false)
 c32:C32 (D 32) F
 g32:σ 32=some (0,false)
 c38:C38 (D 38) F
 g38:σ 38=some (0,false)
 c37:C37 (D 37) F
 g37:σ 37=some (0,false)
 c36:C36 (D 36) F
 g36:σ 36=some (0,false)
 c39:C39 (D 39) F
 g39:σ 39=some (0,false)
abbrev R13 (r:(Int×Bool)):(Nat→V)→Prop:=RR Try.prog [.tmp 2,.tmp 3] 0 false (.tup [Enc.enc (r.1:Int),Enc.enc (r.2:Bool)])
section
variable {D:Den} {σ:Sig} {F:Nat} {r:(Int×Bool)}
def xO (F:Nat) (x_1:GR) (x_17:Int) (x_18:Int) (r_34:LI) (c1:Int→Int→Option (Int×Bool)):Nat→Int→Int→Option (Int×Bool)
 | 0,_,_=>none
 | k + 1,x_38,x_39=>
   bif decide (x_39 < (r_34.length:Int)) then
    (uC F x_1 r_34).bind fun r_43=>
    (Yr F r_43 [] x_39).bind fun r_44=>
    (uT F x_38 (r_44.length:Int)).bind fun r_45=>
    (xO F x_1 x_17 x_18 r_34 c1 k) r_45 (w64 (x_39 + 1))
   else
    (Zo F x_17 x_38).bind fun r_46=>
    c1 r_46 (w64 (x_18 + 1))
theorem zjh (H:H13 D σ F) (x_1:GR) (x_17:Int) (x_18:Int) (r_34:LI) (c1:Int→Int→Option (Int×Bool)) (Hc1:∀ (x_17:Int) (x_18:Int) (s:Nat→V),zl [(1,bG 1 x_1),(2,ji 0),(3,jb false),(4,ji x_17),(5,ji x_18)] s→c1 x_17 x_18=some r→Run D σ (R13 r) (.run N3 [.lp N3,.bk 0,.sq zap]) s):∀ (k:Nat) (x_38:Int) (x_39:Int) (s:Nat→V),zl [(1,bG 1 x_1),(2,ji 0),(3,jb false),(4,ji x_17),(5,ji x_18),(6,eL r_34),(7,ji x_38),(8,ji x_39)] s→xO F x_1 x_17 x_18 r_34 c1 k x_38 x_39=some r→Run D σ (R13 r) (.run ziv [.lp ziv,.bk 2,.sq ziF,.bk 1,.sq zg5,.lp N3,.bk 0,.sq zap]) s:=by
 intro k
 induction k with
 | zero=>intro x_38 x_39 s _ h;exact nm h
 | succ k ih=>
   intro x_38 x_39 s hs h
   rw [xO] at h
   obtain ⟨h1,h2,h3,h4,h5,h6,h7,h8⟩:=hs
   refine .seq (.seq (rg (gm h8 fun h25=>gm h6 fun h26=>gv (ji (r_34.length:Int)) (yu (xs:=r_34) h26) fun h27=>g2 25 27 (jb (decide (x_39 < (r_34.length:Int)))) h25 h27 fun h28=>gq (.nsq (zk (t:=decide (x_39 < (r_34.length:Int))) h28 h (fun h=>?_) (fun h=>?_))))))
   · refine .skip (.nsq (.seq (.block (zq (zS ?_)))))
     refine ez [(1,_),(2,_),(3,_),(4,_),(5,_),(6,_),(7,_),(8,_),(35,_)] ⟨za h1 rfl (zf rfl mIE),za h2 rfl mi,za h3 rfl mb,za h4 rfl mi,za h5 rfl mi,za h6 rfl me,za h7 rfl mi,za h8 rfl mi,zc rfl⟩ ?_
     rintro s ⟨h1,h2,h3,h4,h5,h6,h7,h8,h35⟩
     refine gm h7 fun h31=>g1 1 (gV x_1) h1 fun h32=>gm h6 fun h33=>?_
     obtain ⟨r_43,E_r_43,h⟩:=bind_some h
     refine zF (m:=0) (al:=false) (r:=Enc.enc (r_43:GR)) [Enc.enc (x_1:GR),eL r_34] (ze (v:=gV x_1) h32 rfl (Enc.erase_enc (x_1:GR)) (ze (v:=eL r_34) h33 rfl (Enc.erase_enc (r_34:LI)) zx)) (H.c38 _ _ _ E_r_43) H.g38 rfl rfl rfl rfl (xT [] [] trivial rfl rfl h35 (gm h8 fun h36=>?_))
     obtain ⟨r_44,E_r_44,h⟩:=bind_some h
     refine zF (m:=0) (al:=false) (r:=eL r_44) [Enc.enc (r_43:GR),Enc.enc ([]:LI),Enc.enc (x_39:Int)] (ze (v:=gV r_43) rfl rfl (Enc.erase_enc (r_43:GR)) (ze (v:=oI 35 [] (.of [])) rfl rfl (vm (o:=.of [])) (ze (v:=ji x_39) h36 rfl rfl zx))) (H.c37 _ _ _ _ E_r_44) H.g37 rfl rfl rfl rfl (gv (ji (r_44.length:Int)) (yu (xs:=r_44) rfl) fun h38=>?_)
     obtain ⟨r_45,E_r_45,h⟩:=bind_some h
     refine zF (m:=0) (al:=false) (r:=Enc.enc (r_45:Int)) [Enc.enc (x_38:Int),Enc.enc ((r_44.length:Int):Int)] (ze (v:=ji x_38) h31 rfl rfl (ze (v:=ji (r_44.length:Int)) h38 rfl rfl zx)) (H.c36 _ _ _ E_r_45) H.g36 rfl rfl rfl rfl (gm (rf (ji r_45)) fun h7=>gz [(1,_),(2,_),(3,_),(4,_),(5,_),(6,_),(7,_),(8,_)] ⟨h1,h2,h3,h4,h5,h6,h7,h8⟩ ?_)
     rintro s ⟨h1,h2,h3,h4,h5,h6,h7,h8⟩
     refine .nbk (.nsq (rg (gm h8 fun h29=>g1 29 (ji (w64 (x_39 + 1))) h29 fun h30=>gm h30 fun h8=>gq (.nlp ?_))))
     exact ih r_45 (w64 (x_39 + 1)) _ ⟨h1,h2,h3,h4,h5,h6,h7,h8⟩ h
   refine .exit (.esq (.elp (.ebk (.nsq (rg (gm h4 fun h40=>gm h7 fun h41=>?_))))))
   obtain ⟨r_46,E_r_46,h⟩:=bind_some h
   refine zF (m:=0) (al:=false) (r:=Enc.enc (r_46:Int)) [Enc.enc (x_17:Int),Enc.enc (x_38:Int)] (ze (v:=ji x_17) h40 rfl rfl (ze (v:=ji x_38) h41 rfl rfl zx)) (H.c39 _ _ _ E_r_46) H.g39 rfl rfl rfl rfl (gm (rf (ji r_46)) fun h4=>gq (.nbk (.nsq (rg (gm h5 fun h17=>g1 17 (ji (w64 (x_18 + 1))) h17 fun h18=>gm h18 fun h5=>gz [(1,_),(2,_),(3,_),(4,_),(5,_)] ⟨h1,h2,h3,h4,h5⟩ ?_)))))
   rintro s ⟨h1,h2,h3,h4,h5⟩
   refine .nlp ?_
   exact Hc1 r_46 (w64 (x_18 + 1)) _ ⟨h1,h2,h3,h4,h5⟩ h
def xx (F:Nat) (x_1:GR) :Nat→Int→Int→Option (Int×Bool)
 | 0,_,_=>none
 | k + 1,x_17,x_18=>
   (vR .i64 1 x_1.1).bind fun q_33=>
   bif decide (x_18 < q_33) then
    (Zx F x_1.1 x_18).bind fun r_34=>
    xO F x_1 x_17 x_18 r_34 (xx F x_1 k) F x_1.1 0
   else
    some (x_17,true)
theorem ziq (H:H13 D σ F) (x_1:GR) :∀ (k:Nat) (x_17:Int) (x_18:Int) (s:Nat→V),zl [(1,bG 1 x_1),(2,ji 0),(3,jb false),(4,ji x_17),(5,ji x_18)] s→xx F x_1 k x_17 x_18=some r→Run D σ (R13 r) (.run N3 [.lp N3,.bk 0,.sq zap]) s:=by
 intro k
 induction k with
 | zero=>intro x_17 x_18 s _ h;exact nm h
 | succ k ih=>
   intro x_17 x_18 s hs h
   rw [xx] at h
   obtain ⟨h1,h2,h3,h4,h5⟩:=hs
   refine .seq (.seq (rg (gm h5 fun h12=>g1 1 (.ref (.bx 1) 0 [0] (ji x_1.1)) h1 fun h13=>g1 13 (ji x_1.1) h13 fun h14=>?_)))
   obtain ⟨q_33,E_q_33,h⟩:=bind_some h
   refine gv (ji q_33) (wP rfl h14 E_q_33) fun h15=>g2 12 15 (jb (decide (x_18 < q_33))) h12 h15 fun h16=>gq (.nsq (zk (t:=decide (x_18 < q_33)) h16 h (fun h=>?_) (fun h=>?_)))
   · refine .skip (.nsq (.seq (.block (.seq (rg (g1 1 (.ref (.bx 1) 0 [0] (ji x_1.1)) h1 fun h19=>g1 19 (ji x_1.1) h19 fun h20=>gm h5 fun h21=>?_))))))
     obtain ⟨r_34,E_r_34,h⟩:=bind_some h
     refine zF (m:=0) (al:=false) (r:=eL r_34) [Enc.enc (x_1.1:Int),Enc.enc (x_18:Int)] (ze (v:=ji x_1.1) h20 rfl rfl (ze (v:=ji x_18) h21 rfl rfl zx)) (H.c32 _ _ _ E_r_34) H.g32 rfl rfl rfl rfl (gm (rf (eL r_34)) fun h6=>gq (.nsq (.seq (rg (g1 1 (.ref (.bx 1) 0 [0] (ji x_1.1)) h1 fun h23=>g1 23 (ji x_1.1) h23 fun h24=>gm h24 fun h7=>gq (.nsq (.seq (.seq (rg (g0 (ji 0) fun h8=>gq (.nsq (.block (.loop ?_)))))))))))))
     exact zjh H x_1 x_17 x_18 r_34 (xx F x_1 k) ih F x_1.1 0 _ ⟨h1,h2,h3,h4,h5,h6,h7,h8⟩ h
   refine .exit (.esq (.elp (.ebk (.nsq (.seq (rg (gm h4 fun h43=>gm h43 fun h2=>g0 (jb true) fun h3=>gq (.nsq (.ret ?_)))))))))
   have hr:=Option.some.inj h
   subst hr
   exact rrB (zn h2) (zn h3) rfl
def vq (F:Nat) (x_1:GR):Option (Int×Bool):=
 (uk F x_1).bind fun r_2=>
 bif (!r_2) then
  some (0,false)
 else
  xx F x_1 F (-1) 1
theorem t13 (H:H13 D σ F) (x_1:GR) (s:Nat→V) (hs:zl [(0,gV x_1)] s) (h:vq F x_1=some r):Run D σ (R13 r) (.run A13 []) s:=by
 unfold vq at h
 have h0:=hs
 refine .seq (zq (zS ?_))
 refine ez [(0,_),(1,_)] ⟨za h0 rfl mIE,zc rfl⟩ ?_
 rintro s ⟨h0,h1⟩
 refine xz (gV x_1) (zw h0 rfl) h1 rfl (g0 (ji 0) fun h2=>g0 (jb false) fun h3=>gq (.nsq (.seq (.seq (rg (g1 1 (gV x_1) (rf (bG 1 x_1)) fun h9=>?_))))))
 obtain ⟨r_2,E_r_2,h⟩:=bind_some h
 refine zF (m:=0) (al:=false) (r:=Enc.enc (r_2:Bool)) [Enc.enc (x_1:GR)] (ze (v:=gV x_1) h9 rfl (Enc.erase_enc (x_1:GR)) zx) (H.c22 _ _ E_r_2) H.g22 rfl rfl rfl rfl (g1 10 (jb (!r_2)) (rf (jb r_2)) fun h11=>gq (.nsq (zk (t:=(!r_2)) h11 h (fun h=>?_) (fun h=>?_))))
 · refine .seq (rg (g0 (ji 0) fun h2=>g0 (jb false) fun h3=>gq (.nsq (.ret ?_))))
   have hr:=Option.some.inj h
   subst hr
   exact rrB (zn h2) (zn h3) rfl
 refine .skip (.nsq (.seq (rg (g0 (ji (-1)) fun h4=>gq (.nsq (.seq (.seq (rg (g0 (ji 1) fun h5=>gq (.nsq (.block (.loop ?_))))))))))))
 exact ziq H x_1 F (-1) 1 _ ⟨rfl,h2,h3,h4,h5⟩ h
end
def e13 (F:Nat):Ent:=ent 13 (fun (x:(GR×Unit))=>vq F x.1) (fun (r:(Int×Bool))=>(.tup [Enc.enc (r.1:Int),Enc.enc (r.2:Bool)])) 0 false []
abbrev C13 (D:List V→Option V) (F:Nat):Prop:=∀ (x0:GR) r,vq F x0=some r→D [Enc.enc x0]=some (.tup [Enc.enc (r.1:Int),Enc.enc (r.2:Bool)])
theorem p13 {F:Nat}:C13 (e13 F).den F:=fun x0 _ h=>zN (x0,()) h
theorem o13 {D:Den} {σ:Sig} {F:Nat} (hF:zy Try.prog D σ) (H:H13 D σ F):(e13 F).Ok Try.prog:=by
 refine yl (f:=13) (show unk 13=13 from rfl) (fun args r h=>?_) ⟨Try.f13,Try.func13,rfl,rfl⟩
 obtain ⟨⟨x0,_⟩,y,rfl,hy,rfl⟩:=zM h
 exact zm hF (by kernel_rfl) Try.func13 rfl c13 (show 1≤Try.f13.ntmps by decide) (t13 H x0 _ rfl hy)
def zrG:AC:=(.cond (.t 14) .skip (.exit 0))
def zsC:AC:=(.cond (.t 25) (.seq (.reg [] [jv 4 (.mov kf)] []) .ret) .skip)
def zn6:AC:=(.reg [] [jm 15 5,jv 16 (.bin .add (.t 15) (jn 1)),jm 5 16] [])
def zpk:AC:=(.seq (.block 1 (.seq (.reg [] [jm 17 0,jm 18 5,jv 19 (.idx (.t 17) (.t 18) 1),jv 20 (.load .s (.t 19)),jm 21 1,jm 22 5,jv 23 (.idx (.t 21) (.t 22) 1),jv 24 (.load .s (.t 23)),jv 25 (.bin .neq (.t 20) (.t 24))] []) zsC)) zn6)
def zhT:AC:=(.seq (.seq (.reg [] [jm 11 5,jm 12 0,jv 13 (.len (.t 12)),jv 14 (.bin .lss (.t 11) (.t 13))] []) zrG) zpk)
def zk0:AC:=(.seq (.reg [] [jv 4 (.mov kt)] []) .ret)
def zqm:AC:=(.cond (.t 10) (.seq (.reg [] [jv 4 (.mov kf)] []) .ret) .skip)
def znN:AC:=(.block 0 (.loop zhT))
def zru:AC:=(.seq (.seq (.reg [] [jv 5 (.mov (jn 0))] []) znN) zk0)
def zrD:AC:=(.seq (.seq (.reg [] [jm 6 0,jv 7 (.len (.t 6)),jm 8 1,jv 9 (.len (.t 8)),jv 10 (.bin .neq (.t 7) (.t 9))] []) zqm) zru)
def A14:AC:=(.seq (.reg [] [jv 4 (.mov kf)] []) zrD)
def zty:List An:=[]
theorem c14:cC Try.prog Try.f14.ntmps zty (Try.f14.body.getD .skip)=some A14:=by kernel_rfl
structure H14 (D:Den) (σ:Sig) (F:Nat):Prop where
 mk ::
abbrev R14 (r:Bool):(Nat→V)→Prop:=RR Try.prog [.tmp 4] 0 false (Enc.enc (r:Bool))
section
variable {D:Den} {σ:Sig} {F:Nat} {r:Bool}
def ZH (F:Nat) (x_1:LI) (x_2:LI) :Nat→Int→Option Bool
 | 0,_=>none
 | k + 1,x_5=>
   bif decide (x_5 < (x_1.length:Int)) then
    (idx x_1 x_5).bind fun e_8=>
    (idx x_2 x_5).bind fun e_9=>
    bif (e_8 != e_9) then
     some false
    else
     (ZH F x_1 x_2 k) (w64 (x_5 + 1))
   else
    some true
theorem zhB (H:H14 D σ F) (x_1:LI) (x_2:LI) :∀ (k:Nat) (x_5:Int) (s:Nat→V),zl [(0,eL x_1),(1,eL x_2),(4,jb false),(5,ji x_5)] s→ZH F x_1 x_2 k x_5=some r→Run D σ (R14 r) (.run zhT [.lp zhT,.bk 0,.sq zk0]) s:=by
 intro k
 induction k with
 | zero=>intro x_5 s _ h;exact nm h
 | succ k ih=>
   intro x_5 s hs h
   rw [ZH] at h
   obtain ⟨h0,h1,h4,h5⟩:=hs
   refine .seq (.seq (rg (gm h5 fun h11=>gm h0 fun h12=>gv (ji (x_1.length:Int)) (yu (xs:=x_1) h12) fun h13=>g2 11 13 (jb (decide (x_5 < (x_1.length:Int)))) h11 h13 fun h14=>gq (.nsq (zk (t:=decide (x_5 < (x_1.length:Int))) h14 h (fun h=>?_) (fun h=>?_))))))
   · refine .skip (.nsq (.seq (.block (.seq (rg (gm h0 fun h17=>gm h5 fun h18=>?_))))))
     obtain ⟨e_8,E_e_8,h⟩:=bind_some h
     refine gv (.ref .sh 0 [] (ji e_8)) (yz (t:=.sh) (lo:=0) (xs:=x_1) h17 h18 E_e_8 rfl rfl) fun h19=>g1 19 (ji e_8) h19 fun h20=>gm h1 fun h21=>gm h5 fun h22=>?_
     obtain ⟨e_9,E_e_9,h⟩:=bind_some h
     refine gv (.ref .sh 0 [] (ji e_9)) (yz (t:=.sh) (lo:=0) (xs:=x_2) h21 h22 E_e_9 rfl rfl) fun h23=>g1 23 (ji e_9) h23 fun h24=>g2 20 24 (jb (e_8 != e_9)) h20 h24 fun h25=>gq (.nsq (zk (t:=(e_8 != e_9)) h25 h (fun h=>?_) (fun h=>?_)))
     · refine .seq (rg (g0 (jb false) fun h4=>gq (.nsq (.ret ?_))))
       have hr:=Option.some.inj h
       subst hr
       exact rrA (zn h4) rfl
     refine .skip (.nbk (.nsq (rg (gm h5 fun h15=>g1 15 (ji (w64 (x_5 + 1))) h15 fun h16=>gm h16 fun h5=>gq (.nlp ?_)))))
     exact ih (w64 (x_5 + 1)) _ ⟨h0,h1,h4,h5⟩ h
   refine .exit (.esq (.elp (.ebk (.nsq (.seq (rg (g0 (jb true) fun h4=>gq (.nsq (.ret ?_)))))))))
   have hr:=Option.some.inj h
   subst hr
   exact rrA (zn h4) rfl
def XX (F:Nat) (x_1:LI) (x_2:LI):Option Bool:=
 bif ((x_1.length:Int) != (x_2.length:Int)) then
  some false
 else
  ZH F x_1 x_2 F 0
theorem t14 (H:H14 D σ F) (x_1:LI) (x_2:LI) (s:Nat→V) (hs:zl [(0,eL x_1),(1,eL x_2)] s) (h:XX F x_1 x_2=some r):Run D σ (R14 r) (.run A14 []) s:=by
 unfold XX at h
 obtain ⟨h0,h1⟩:=hs
 refine .seq (rg (g0 (jb false) fun h4=>gq (.nsq (.seq (.seq (rg (gm h0 fun h6=>gv (ji (x_1.length:Int)) (yu (xs:=x_1) h6) fun h7=>gm h1 fun h8=>gv (ji (x_2.length:Int)) (yu (xs:=x_2) h8) fun h9=>g2 7 9 (jb ((x_1.length:Int) != (x_2.length:Int))) h7 h9 fun h10=>gq (.nsq (zk (t:=((x_1.length:Int) != (x_2.length:Int))) h10 h (fun h=>?_) (fun h=>?_))))))))))
 · refine .seq (rg (g0 (jb false) fun h4=>gq (.nsq (.ret ?_))))
   have hr:=Option.some.inj h
   subst hr
   exact rrA (zn h4) rfl
 refine .skip (.nsq (.seq (.seq (rg (g0 (ji 0) fun h5=>gq (.nsq (.block (.loop ?_))))))))
 exact zhB H x_1 x_2 F 0 _ ⟨h0,h1,h4,h5⟩ h
end
def e14 (F:Nat):Ent:=ent 14 (fun (x:(LI×LI×Unit))=>XX F x.1 x.2.1) (fun (r:Bool)=>(Enc.enc (r:Bool))) 0 false []
abbrev C14 (D:List V→Option V) (F:Nat):Prop:=∀ (x0:LI) (x1:LI) r,XX F x0 x1=some r→D [Enc.enc x0,Enc.enc x1]=some (Enc.enc (r:Bool))
theorem p14 {F:Nat}:C14 (e14 F).den F:=fun x0 x1 _ h=>zN (x0,x1,()) h
theorem o14 {D:Den} {σ:Sig} {F:Nat} (hF:zy Try.prog D σ) (H:H14 D σ F):(e14 F).Ok Try.prog:=by
 refine yl (f:=14) (show unk 14=14 from rfl) (fun args r h=>?_) ⟨Try.f14,Try.func14,rfl,rfl⟩
 obtain ⟨⟨x0,x1,_⟩,y,rfl,hy,rfl⟩:=zM h
 exact zm hF (by kernel_rfl) Try.func14 rfl c14 (show 2≤Try.f14.ntmps by decide) (t14 H x0 x1 _ ⟨rfl,rfl⟩ hy)
def zoC:AC:=(.cond (.t 19) (.seq (.reg [] [jv 6 (.mov kf)] []) .ret) .skip)
def zrT:AC:=(.seq (.reg [] [jm 15 8,jm 16 1,jm 17 2,jx 18 (.call (jf 45) [.t 15,.t 16,.t 17]),jv 19 (.un .not (.t 18))] []) zoC)
def zst:AC:=(.reg [] [jv 20 (.bin .add (.t 11) (jn 1)),jm 11 20] [])
def znY:AC:=(.seq (.block 1 (.seq (.reg [] [jv 13 (.idx (.t 9) (.t 11) 1),jv 14 (.load .s (.t 13)),jm 8 14] []) zrT)) zst)
def zrn:AC:=(.seq (.cond (.t 12) .skip (.exit 0)) znY)
def zhP:AC:=(.seq (.reg [] [jv 12 (.bin .lss (.t 11) (.t 10))] []) zrn)
def zkS:AC:=(.seq (.reg [] [jv 6 (.mov kt)] []) .ret)
def zsd:AC:=(.block 0 (.loop zhP))
def zta:AC:=(.seq (.seq (.reg [] [jm 9 0,jv 10 (.len (.t 9)),jv 11 (.mov (jn 0))] []) zsd) zkS)
def A61:AC:=(.seq (.reg [] [jv 6 (.mov kf)] []) zta)
def ztN:List An:=[]
theorem c61:cC Try.prog Try.f61.ntmps ztN (Try.f61.body.getD .skip)=some A61:=by kernel_rfl
structure H61 (D:Den) (σ:Sig) (F:Nat):Prop where
 c45:C45 (D 45) F
 g45:σ 45=some (0,false)
abbrev R61 (r:Bool):(Nat→V)→Prop:=RR Try.prog [.tmp 6] 0 false (Enc.enc (r:Bool))
section
variable {D:Den} {σ:Sig} {F:Nat} {r:Bool}
def vl (F:Nat) (x_2:Int) (x_3:Int) (x_1:LI) :Nat→Int→Option Bool
 | 0,_=>none
 | k + 1,x_6=>
   bif decide (x_6 < (x_1.length:Int)) then
    (idx x_1 x_6).bind fun e_9=>
    (YX F e_9 x_2 x_3).bind fun r_10=>
    bif (!r_10) then
     some false
    else
     (vl F x_2 x_3 x_1 k) (w64 (x_6 + 1))
   else
    some true
theorem zgF (H:H61 D σ F) (x_2:Int) (x_3:Int) (x_1:LI) :∀ (k:Nat) (x_6:Int) (s:Nat→V),zl [(1,ji x_2),(2,ji x_3),(6,jb false),(9,eL x_1),(10,ji (x_1.length:Int)),(11,ji x_6)] s→vl F x_2 x_3 x_1 k x_6=some r→Run D σ (R61 r) (.run zhP [.lp zhP,.bk 0,.sq zkS]) s:=by
 intro k
 induction k with
 | zero=>intro x_6 s _ h;exact nm h
 | succ k ih=>
   intro x_6 s hs h
   rw [vl] at h
   obtain ⟨h1,h2,h6,h9,h10,h11⟩:=hs
   refine .seq (rg (g2 11 10 (jb (decide (x_6 < (x_1.length:Int)))) h11 h10 fun h12=>gq (.nsq (.seq (zk (t:=decide (x_6 < (x_1.length:Int))) h12 h (fun h=>?_) (fun h=>?_))))))
   · refine .skip (.nsq (.seq (.block (.seq (rg ?_)))))
     obtain ⟨e_9,E_e_9,h⟩:=bind_some h
     refine gv (.ref .sh 0 [] (ji e_9)) (yz (t:=.sh) (lo:=0) (xs:=x_1) h9 h11 E_e_9 rfl rfl) fun h13=>g1 13 (ji e_9) h13 fun h14=>gm h14 fun h8=>gq (.nsq (.seq (rg (gm h8 fun h15=>gm h1 fun h16=>gm h2 fun h17=>?_))))
     obtain ⟨r_10,E_r_10,h⟩:=bind_some h
     refine zF (m:=0) (al:=false) (r:=Enc.enc (r_10:Bool)) [Enc.enc (e_9:Int),Enc.enc (x_2:Int),Enc.enc (x_3:Int)] (ze (v:=ji e_9) h15 rfl rfl (ze (v:=ji x_2) h16 rfl rfl (ze (v:=ji x_3) h17 rfl rfl zx))) (H.c45 _ _ _ _ E_r_10) H.g45 rfl rfl rfl rfl (g1 18 (jb (!r_10)) (rf (jb r_10)) fun h19=>gq (.nsq (zk (t:=(!r_10)) h19 h (fun h=>?_) (fun h=>?_))))
     · refine .seq (rg (g0 (jb false) fun h6=>gq (.nsq (.ret ?_))))
       have hr:=Option.some.inj h
       subst hr
       exact rrA (zn h6) rfl
     refine .skip (.nbk (.nsq (rg (g1 11 (ji (w64 (x_6 + 1))) h11 fun h20=>gm h20 fun h11=>gq (.nlp ?_)))))
     exact ih (w64 (x_6 + 1)) _ ⟨h1,h2,h6,h9,h10,h11⟩ h
   refine .exit (.esq (.elp (.ebk (.nsq (.seq (rg (g0 (jb true) fun h6=>gq (.nsq (.ret ?_)))))))))
   have hr:=Option.some.inj h
   subst hr
   exact rrA (zn h6) rfl
def uJ (F:Nat) (x_1:LI) (x_2:Int) (x_3:Int):Option Bool:=
 vl F x_2 x_3 x_1 F 0
theorem t61 (H:H61 D σ F) (x_1:LI) (x_2:Int) (x_3:Int) (s:Nat→V) (hs:zl [(0,eL x_1),(1,ji x_2),(2,ji x_3)] s) (h:uJ F x_1 x_2 x_3=some r):Run D σ (R61 r) (.run A61 []) s:=by
 unfold uJ at h
 obtain ⟨h0,h1,h2⟩:=hs
 refine .seq (rg (g0 (jb false) fun h6=>gq (.nsq (.seq (.seq (rg (gm h0 fun h9=>gv (ji (x_1.length:Int)) (yu (xs:=x_1) h9) fun h10=>g0 (ji 0) fun h11=>gq (.nsq (.block (.loop ?_))))))))))
 exact zgF H x_2 x_3 x_1 F 0 _ ⟨h1,h2,h6,h9,h10,h11⟩ h
end
def e61 (F:Nat):Ent:=ent 61 (fun (x:(LI×Int×Int×Unit))=>uJ F x.1 x.2.1 x.2.2.1) (fun (r:Bool)=>(Enc.enc (r:Bool))) 0 false []
abbrev C61 (D:List V→Option V) (F:Nat):Prop:=∀ (x0:LI) (x1:Int) (x2:Int) r,uJ F x0 x1 x2=some r→D [Enc.enc x0,Enc.enc x1,Enc.enc x2]=some (Enc.enc (r:Bool))
theorem p61 {F:Nat}:C61 (e61 F).den F:=fun x0 x1 x2 _ h=>zN (x0,x1,x2,()) h
theorem o61 {D:Den} {σ:Sig} {F:Nat} (hF:zy Try.prog D σ) (H:H61 D σ F):(e61 F).Ok Try.prog:=by
 refine yl (f:=61) (show unk 61=61 from rfl) (fun args r h=>?_) ⟨Try.f61,Try.func61,rfl,rfl⟩
 obtain ⟨⟨x0,x1,x2,_⟩,y,rfl,hy,rfl⟩:=zM h
 exact zm hF (by kernel_rfl) Try.func61 rfl c61 (show 3≤Try.f61.ntmps by decide) (t61 H x0 x1 x2 _ ⟨rfl,rfl,rfl⟩ hy)
def zoo:AC:=(.reg [] [jm 12 3,jm 13 5,jv 14 (.bin .shl (jn 1) (.t 13)),jv 15 (.bin .or (.t 12) (.t 14)),jm 3 15] [])
def zqE:AC:=(.reg [] [jv 16 (.bin .add (.t 8) (jn 1)),jm 8 16] [])
def zoB:AC:=(.seq (.block 1 (.seq (.reg [] [jv 10 (.idx (.t 6) (.t 8) 1),jv 11 (.load .s (.t 10)),jm 5 11] []) zoo)) zqE)
def zoY:AC:=(.seq (.cond (.t 9) .skip (.exit 0)) zoB)
def zhZ:AC:=(.seq (.reg [] [jv 9 (.bin .lss (.t 8) (.t 7))] []) zoY)
def zkX:AC:=(.seq (.reg [] [jm 17 3,jm 2 17] []) .ret)
def zqJ:AC:=(.block 0 (.loop zhZ))
def zsp:AC:=(.seq (.seq (.reg [] [jm 6 0,jv 7 (.len (.t 6)),jv 8 (.mov (jn 0))] []) zqJ) zkX)
def zrf:AC:=(.seq (.reg [] [jv 3 (.mov (jn 0))] []) zsp)
def A62:AC:=(.seq (.reg [] [jv 2 (.mov (jn 0))] []) zrf)
def zuB:List An:=[]
theorem c62:cC Try.prog Try.f62.ntmps zuB (Try.f62.body.getD .skip)=some A62:=by kernel_rfl
structure H62 (D:Den) (σ:Sig) (F:Nat):Prop where
 mk ::
abbrev R62 (r:Int):(Nat→V)→Prop:=RR Try.prog [.tmp 2] 0 false (Enc.enc (r:Int))
section
variable {D:Den} {σ:Sig} {F:Nat} {r:Int}
def v9 (F:Nat) (x_1:LI) :Nat→Int→Int→Option Int
 | 0,_,_=>none
 | k + 1,x_4,x_5=>
   bif decide (x_5 < (x_1.length:Int)) then
    (idx x_1 x_5).bind fun e_8=>
    (vR .i64 1 e_8).bind fun q_9=>
    (v9 F x_1 k) (ior .i64 x_4 q_9) (w64 (x_5 + 1))
   else
    some x_4
theorem zhO (H:H62 D σ F) (x_1:LI) :∀ (k:Nat) (x_4:Int) (x_5:Int) (s:Nat→V),zl [(2,ji 0),(3,ji x_4),(6,eL x_1),(7,ji (x_1.length:Int)),(8,ji x_5)] s→v9 F x_1 k x_4 x_5=some r→Run D σ (R62 r) (.run zhZ [.lp zhZ,.bk 0,.sq zkX]) s:=by
 intro k
 induction k with
 | zero=>intro x_4 x_5 s _ h;exact nm h
 | succ k ih=>
   intro x_4 x_5 s hs h
   rw [v9] at h
   obtain ⟨h2,h3,h6,h7,h8⟩:=hs
   refine .seq (rg (g2 8 7 (jb (decide (x_5 < (x_1.length:Int)))) h8 h7 fun h9=>gq (.nsq (.seq (zk (t:=decide (x_5 < (x_1.length:Int))) h9 h (fun h=>?_) (fun h=>?_))))))
   · refine .skip (.nsq (.seq (.block (.seq (rg ?_)))))
     obtain ⟨e_8,E_e_8,h⟩:=bind_some h
     refine gv (.ref .sh 0 [] (ji e_8)) (yz (t:=.sh) (lo:=0) (xs:=x_1) h6 h8 E_e_8 rfl rfl) fun h10=>g1 10 (ji e_8) h10 fun h11=>gm h11 fun h5=>gq (.nsq (rg (gm h3 fun h12=>gm h5 fun h13=>?_)))
     obtain ⟨q_9,E_q_9,h⟩:=bind_some h
     refine gv (ji q_9) (wP rfl h13 E_q_9) fun h14=>g2 12 14 (ji (ior .i64 x_4 q_9)) h12 h14 fun h15=>gm h15 fun h3=>gq (.nbk (.nsq (rg (g1 8 (ji (w64 (x_5 + 1))) h8 fun h16=>gm h16 fun h8=>gq (.nlp ?_)))))
     exact ih (ior .i64 x_4 q_9) (w64 (x_5 + 1)) _ ⟨h2,h3,h6,h7,h8⟩ h
   refine .exit (.esq (.elp (.ebk (.nsq (.seq (rg (gm h3 fun h17=>gm h17 fun h2=>gq (.nsq (.ret ?_)))))))))
   have hr:=Option.some.inj h
   subst hr
   exact rrA (zn h2) rfl
def XJ (F:Nat) (x_1:LI):Option Int:=
 v9 F x_1 F 0 0
theorem t62 (H:H62 D σ F) (x_1:LI) (s:Nat→V) (hs:zl [(0,eL x_1)] s) (h:XJ F x_1=some r):Run D σ (R62 r) (.run A62 []) s:=by
 unfold XJ at h
 have h0:=hs
 refine .seq (rg (g0 (ji 0) fun h2=>gq (.nsq (.seq (rg (g0 (ji 0) fun h3=>gq (.nsq (.seq (.seq (rg (gm h0 fun h6=>gv (ji (x_1.length:Int)) (yu (xs:=x_1) h6) fun h7=>g0 (ji 0) fun h8=>gq (.nsq (.block (.loop ?_))))))))))))))
 exact zhO H x_1 F 0 0 _ ⟨h2,h3,h6,h7,h8⟩ h
end
def e62 (F:Nat):Ent:=ent 62 (fun (x:(LI×Unit))=>XJ F x.1) (fun (r:Int)=>(Enc.enc (r:Int))) 0 false []
abbrev C62 (D:List V→Option V) (F:Nat):Prop:=∀ (x0:LI) r,XJ F x0=some r→D [Enc.enc x0]=some (Enc.enc (r:Int))
theorem p62 {F:Nat}:C62 (e62 F).den F:=fun x0 _ h=>zN (x0,()) h
theorem o62 {D:Den} {σ:Sig} {F:Nat} (hF:zy Try.prog D σ) (H:H62 D σ F):(e62 F).Ok Try.prog:=by
 refine yl (f:=62) (show unk 62=62 from rfl) (fun args r h=>?_) ⟨Try.f62,Try.func62,rfl,rfl⟩
 obtain ⟨⟨x0,_⟩,y,rfl,hy,rfl⟩:=zM h
 exact zm hF (by kernel_rfl) Try.func62 rfl c62 (show 1≤Try.f62.ntmps by decide) (t62 H x0 _ rfl hy)
def zpy:AC:=(.seq (.reg [] [jm 5 1,jv 6 (.len (.t 5)),jv 7 (.fld (.t 2) 0 0),jv 8 (.load .s (.t 7)),jv 9 (.bin .eql (.t 6) (.t 8)),jm 10 9,jg 11 10 true (.mov (.t 1)),jg 12 10 true (.fld (.t 2) 0 0),jg 13 10 true (.load .s (.t 12)),jg 14 10 true (.bin .sub (.t 13) (jn 1)),.mk (some 15) (some (10,true)) false (.call (jf 61) [.t 11,jn 0,.t 14]),jv 16 (.pick (.t 10) (.t 15) kf),jm 17 16,jg 18 17 true (.mov (.t 1)),.mk (some 19) (some (17,true)) false (.call (jf 62) [.t 18]),jg 20 17 true (.fld (.t 2) 0 0),jg 21 17 true (.load .s (.t 20)),jg 22 17 true (.bin .shl (jn 1) (.t 21)),jg 23 17 true (.bin .sub (.t 22) (jn 1)),jg 24 17 true (.bin .eql (.t 19) (.t 23)),jv 25 (.pick (.t 17) (.t 24) kf),jm 4 25] []) .ret)
def A40:AC:=(.seq (.reg [.clr [2]] [jx 2 (.box (.t 0)),jv 4 (.mov kf)] []) zpy)
def ztf:List An:=[⟨0,[.clr [2]],[],[],[]⟩]
theorem c40:cC Try.prog Try.f40.ntmps ztf (Try.f40.body.getD .skip)=some A40:=by kernel_rfl
structure H40 (D:Den) (σ:Sig) (F:Nat):Prop where
 c61:C61 (D 61) F
 g61:σ 61=some (0,false)
 c62:C62 (D 62) F
 g62:σ 62=some (0,false)
abbrev R40 (r:Bool):(Nat→V)→Prop:=RR Try.prog [.tmp 4] 0 false (Enc.enc (r:Bool))
section
variable {D:Den} {σ:Sig} {F:Nat} {r:Bool}
def Yw (F:Nat) (x_1:GR) (x_2:LI):Option Bool:=
 bif ((x_2.length:Int) == x_1.1) then
  (uJ F x_2 0 (w64 (x_1.1 - 1))).bind fun r_3=>
  bif r_3 then
   (XJ F x_2).bind fun r_4=>
   (vR .i64 1 x_1.1).bind fun q_5=>
   some (r_4 == (w64 (q_5 - 1)))
  else
   some false
 else
  some false
theorem t40 (H:H40 D σ F) (x_1:GR) (x_2:LI) (s:Nat→V) (hs:zl [(0,gV x_1),(1,eL x_2)] s) (h:Yw F x_1 x_2=some r):Run D σ (R40 r) (.run A40 []) s:=by
 unfold Yw at h
 obtain ⟨h0,h1⟩:=hs
 refine .seq (zq (zS ?_))
 refine ez [(0,_),(1,_),(2,_)] ⟨za h0 rfl mIE,za h1 rfl me,zc rfl⟩ ?_
 rintro s ⟨h0,h1,h2⟩
 refine xz (gV x_1) (zw h0 rfl) h2 rfl (g0 (jb false) fun h4=>gq (.nsq (.seq (rg (gm h1 fun h5=>gv (ji (x_2.length:Int)) (yu (xs:=x_2) h5) fun h6=>g1 2 (.ref (.bx 2) 0 [0] (ji x_1.1)) (rf (bG 2 x_1)) fun h7=>g1 7 (ji x_1.1) h7 fun h8=>g2 6 8 (jb ((x_2.length:Int) == x_1.1)) h6 h8 fun h9=>gm h9 fun h10=>zW (c:=((x_2.length:Int) == x_1.1)) h (fun hg6 h=>?_) (fun hg6 h=>?_))))))
 · refine zg (ct h10 hg6) (gm h1 fun h11=>zg (ct h10 hg6) (g1 2 (.ref (.bx 2) 0 [0] (ji x_1.1)) (rf (bG 2 x_1)) fun h12=>zg (ct h10 hg6) (g1 12 (ji x_1.1) h12 fun h13=>zg (ct h10 hg6) (g1 13 (ji (w64 (x_1.1 - 1))) h13 fun h14=>?_))))
   obtain ⟨r_3,E_r_3,h⟩:=bind_some h
   refine zg (ct h10 hg6) (zF (m:=0) (al:=false) (r:=Enc.enc (r_3:Bool)) [eL x_2,Enc.enc (0:Int),Enc.enc (w64 (x_1.1 - 1):Int)] (ze (v:=eL x_2) h11 rfl (Enc.erase_enc (x_2:LI)) (ze (v:=ji 0) rfl rfl rfl (ze (v:=ji (w64 (x_1.1 - 1))) h14 rfl rfl zx))) (H.c61 _ _ _ _ E_r_3) H.g61 rfl rfl rfl rfl (g2 10 15 (jb r_3) (ct h10 hg6) (rf (jb r_3)) fun h16=>gm h16 fun h17=>zW (c:=r_3) h (fun hg13 h=>?_) (fun hg13 h=>?_)))
   · refine zg (ct h17 hg13) (gm h1 fun h18=>?_)
     obtain ⟨r_4,E_r_4,h⟩:=bind_some h
     refine zg (ct h17 hg13) (zF (m:=0) (al:=false) (r:=Enc.enc (r_4:Int)) [eL x_2] (ze (v:=eL x_2) h18 rfl (Enc.erase_enc (x_2:LI)) zx) (H.c62 _ _ E_r_4) H.g62 rfl rfl rfl rfl (zg (ct h17 hg13) (g1 2 (.ref (.bx 2) 0 [0] (ji x_1.1)) (rf (bG 2 x_1)) fun h20=>zg (ct h17 hg13) (g1 20 (ji x_1.1) h20 fun h21=>?_))))
     obtain ⟨q_5,E_q_5,h⟩:=bind_some h
     refine zg (ct h17 hg13) (gv (ji q_5) (wP rfl h21 E_q_5) fun h22=>zg (ct h17 hg13) (g1 22 (ji (w64 (q_5 - 1))) h22 fun h23=>zg (ct h17 hg13) (g2 19 23 (jb (r_4 == (w64 (q_5 - 1)))) (rf (ji r_4)) h23 fun h24=>g2 17 24 (jb (r_4 == (w64 (q_5 - 1)))) (ct h17 hg13) h24 fun h25=>gm h25 fun h4=>gq (.nsq (.ret ?_)))))
     have hr:=Option.some.inj h
     subst hr
     exact rrA (zn h4) rfl
   iterate 7 refine z9 (ct h17 hg13) ?_
   refine g2 17 24 (jb false) (ct h17 hg13) (rf (.tup [])) fun h25=>gm h25 fun h4=>gq (.nsq (.ret ?_))
   have hr:=Option.some.inj h
   subst hr
   exact rrA (zn h4) rfl
 iterate 5 refine z9 (ct h10 hg6) ?_
 refine g2 10 15 (jb false) (ct h10 hg6) (rf (.tup [])) fun h16=>gm h16 fun h17=>z9 h17 ?_
 iterate 6 refine z9 h17 ?_
 refine g2 17 24 (jb false) h17 (rf (.tup [])) fun h25=>gm h25 fun h4=>gq (.nsq (.ret ?_))
 have hr:=Option.some.inj h
 subst hr
 exact rrA (zn h4) rfl
end
def e40 (F:Nat):Ent:=ent 40 (fun (x:(GR×LI×Unit))=>Yw F x.1 x.2.1) (fun (r:Bool)=>(Enc.enc (r:Bool))) 0 false []
abbrev C40 (D:List V→Option V) (F:Nat):Prop:=∀ (x0:GR) (x1:LI) r,Yw F x0 x1=some r→D [Enc.enc x0,Enc.enc x1]=some (Enc.enc (r:Bool))
theorem p40 {F:Nat}:C40 (e40 F).den F:=fun x0 x1 _ h=>zN (x0,x1,()) h
theorem o40 {D:Den} {σ:Sig} {F:Nat} (hF:zy Try.prog D σ) (H:H40 D σ F):(e40 F).Ok Try.prog:=by
 refine yl (f:=40) (show unk 40=40 from rfl) (fun args r h=>?_) ⟨Try.f40,Try.func40,rfl,rfl⟩
 obtain ⟨⟨x0,x1,_⟩,y,rfl,hy,rfl⟩:=zM h
 exact zm hF (by kernel_rfl) Try.func40 rfl c40 (show 2≤Try.f40.ntmps by decide) (t40 H x0 x1 _ ⟨rfl,rfl⟩ hy)
shelf_lay Lays2.n15 Nm2 15 at Try as Lay80o
structure zuN (D:Den) (σ:Sig) (F:Nat):Prop where
 mk ::
def vT (F:Nat) (s_1:LI):Option (NL Int):=
 cloneO s_1
def zmL (F:Nat):Ent:=ent 1000000080 (fun (x:(LI×Unit))=>vT F x.1) (fun (r:(NL Int))=>(zi .sh (r:NL Int))) 1 false []
theorem zts {F:Nat} {x0:LI} {r:(NL Int)} (h:vT F x0=some r):(zmL F).den [Enc.enc x0]=some (zi .sh (r:NL Int)):=zgW (f:=fun (x:(LI×Unit))=>vT F x.1) (t:=fun (r:(NL Int))=>(zi .sh (r:NL Int))) (x0,()) h
theorem zt8 {D:Den} {σ:Sig} {F:Nat} (hF:zy Try.prog D σ) (H:zuN D σ F):(zmL F).Ok Try.prog:=by
 refine yl (f:=80) (show unk 1000000080=80 from rfl) (fun args r h=>?_) ⟨Try.f80,Try.func80,rfl,rfl⟩
 obtain ⟨⟨x0,_⟩,y,rfl,hy,rfl⟩:=zM h
 exact con_plain (f:=80) (clone_conO Lay80o hy) rfl
def zlv:AC:=(.seq (.reg [.clr [5]] [jv 3 (.fld (.t 1) 0 0),jv 4 (.load .p (.t 3)),jx 5 (.callO (jf 80) [.t 4]),jv 6 (.bld (.agg [.sl .nl .s 0 []]) [(0,0,.t 5)]),jz (.store (.ag [.p]) (.t 2) (.t 6))] []) .ret)
def zou:AC:=(.seq (.reg [.clr [1,2]] [jx 1 (.box (.t 0)),jx 2 (.alloc (.agg [.sl .nl .s 0 []]))] []) zlv)
def zpP:List An:=[⟨0,[.clr [1,2]],[],[],[]⟩,⟨1,[.clr [5]],[],[1002],[]⟩]
theorem c76o:cC Try.prog Try.f76.ntmps zpP (Try.f76.body.getD .skip)=some zou:=by kernel_rfl
structure zpm (D:Den) (σ:Sig) (F:Nat):Prop where
 c80o:∀ (x0:LI) r,vT F x0=some r→D 1000000080 [Enc.enc x0]=some (zi .sh (r:NL Int))
 g80o:σ 1000000080=some (1,false)
abbrev ztx (r:(S1 (NL Int))):(Nat→V)→Prop:=RR Try.prog [.cell 2 44] 1 false (.agg [zi .sh (r.a:NL Int)])
section
variable {D:Den} {σ:Sig} {F:Nat} {r:(S1 (NL Int))}
def uv (F:Nat) (x_1:(S1 LI)):Option (S1 (NL Int)):=
 (vT F x_1.a).bind fun r_2=>
 some (S1.mk r_2)
theorem zt0 (H:zpm D σ F) (x_1:(S1 LI)) (s:Nat→V) (hs:zl [(0,.agg [eL x_1.a])] s) (h:uv F x_1=some r):Run D σ (ztx r) (.run zou []) s:=by
 unfold uv at h
 have h0:=hs
 refine .seq (zq (zS ?_))
 refine ez [(0,_),(1,_),(2,_)] ⟨za h0 rfl (zA (zd me zh)),zc rfl,zc rfl⟩ ?_
 rintro s ⟨h0,h1,h2⟩
 refine xz (.agg [eL x_1.a]) (zw h0 rfl) h1 rfl (xk h2 (gq (.nsq (.seq (zq (zS ?_))))))
 refine ez [(1,_),(2,_),(5,_)] ⟨za rfl rfl (zf rfl (zA (zd me zh))),za rfl rfl (zf rfl (zA (zd rfl zh))),zc rfl⟩ ?_
 rintro s ⟨h1,h2,h5⟩
 refine g1 1 (.ref (.bx 1) 0 [0] (eL x_1.a)) h1 fun h3=>g1 3 (eL x_1.a) h3 fun h4=>?_
 obtain ⟨r_2,E_r_2,h⟩:=bind_some h
 refine ZA (m:=1) (al:=false) (r:=zi .sh (r_2:NL Int)) (v:=oI 5 [] r_2) (kk:=1000000080) [eL x_1.a] (ze (v:=eL x_1.a) h4 rfl (Enc.erase_enc (x_1.a:LI)) zx) (H.c80o _ _ E_r_2) H.g80o rfl vf vX vv h5 (gv (.agg [oI 5 [] r_2]) (zjN rfl) fun h6=>yb (.agg [oI 5 [] r_2]) (zw h2 rfl) (zw h6 rfl) ⟨by decide,by decide,rfl,(by simp [V.shape,V.shapes,yK,Sh.beq,Sh.beqs]),(by simp [V.shape,V.shapes,yK,Sh.beq,Sh.beqs]),(by simp [V.toks,V.tokss,ya])⟩ (gz [(2,.ref (.bx 2) 0 [] (.agg [oI 5 [] r_2]))] (zb h2 rfl) ?_))
 rintro s h2
 refine .nsq (.ret ?_)
 have hr:=Option.some.inj h
 subst hr
 exact rrA (wN h2 (by simp only [V.shape,V.shapes,yK];kernel_rfl)) (Z6 (J3 (ZE (Yj (o:=(r_2:NL Int))) UY)) rfl (XB (x9 (xB rfl) u6)))
end
def zlW (F:Nat):Ent:=ent 1000000076 (fun (x:((S1 LI)×Unit))=>uv F x.1) (fun (r:(S1 (NL Int)))=>(.agg [zi .sh (r.a:NL Int)])) 1 false []
abbrev zrb (D:List V→Option V) (F:Nat):Prop:=∀ (x0:(S1 LI)) r,uv F x0=some r→D [Enc.enc x0]=some (.agg [zi .sh (r.a:NL Int)])
theorem ztG {F:Nat}:zrb (zlW F).den F:=fun x0 _ h=>zN (x0,()) h
theorem ztL {D:Den} {σ:Sig} {F:Nat} (hF:zy Try.prog D σ) (H:zpm D σ F):(zlW F).Ok Try.prog:=by
 refine yl (f:=76) (show unk 1000000076=76 from rfl) (fun args r h=>?_) ⟨Try.f76,Try.func76,rfl,rfl⟩
 obtain ⟨⟨x0,_⟩,y,rfl,hy,rfl⟩:=zM h
 exact zm hF (by kernel_rfl) Try.func76 rfl c76o (show 1≤Try.f76.ntmps by decide) (zt0 H x0 _ rfl hy)
def zl5:AC:=(.reg [] [jv 40 (.fld (.t 5) 0 0),jv 41 (.load .p (.t 40)),jm 42 11,jv 43 (.idx (.t 41) (.t 42) 1),jv 44 (.load .s (.t 43)),jm 45 9,jm 46 11,jv 47 (.bin .shl (jn 1) (.t 46)),jv 48 (.bin .andNot (.t 45) (.t 47)),jv 49 (.bin .or (.t 44) (.t 48)),jv 50 (.idx (.t 41) (.t 42) 1),jz (.store .s (.t 50) (.t 49))] [])
def zlU:AC:=(.reg [] [jv 51 (.bin .add (.t 36) (jn 1)),jm 36 51] [])
def zno:AC:=(.seq (.block 3 (.seq (.reg [] [jv 38 (.idx (.t 34) (.t 36) 1),jv 39 (.load .s (.t 38)),jm 11 39] []) zl5)) zlU)
def zpW:AC:=(.seq (.cond (.t 37) .skip (.exit 2)) zno)
def zhq:AC:=(.seq (.reg [] [jv 37 (.bin .lss (.t 36) (.t 35))] []) zpW)
def zqk:AC:=(.block 2 (.loop zhq))
def zpS:AC:=(.seq (.reg [] [jm 33 9,jx 34 (.call (jf 29) [.t 33]),jv 35 (.len (.t 34)),jv 36 (.mov (jn 0))] []) zqk)
def zrP:AC:=(.seq (.reg [] [jv 26 (.fld (.t 5) 0 0),jv 27 (.load .p (.t 26)),jm 28 8,jv 29 (.idx (.t 27) (.t 28) 1),jv 30 (.load .s (.t 29)),jm 31 6,jv 32 (.bin .and (.t 30) (.t 31)),jm 9 32] []) zpS)
def zpf:AC:=(.seq (.reg [] [jm 22 6,jm 23 8,jv 24 (.bin .shl (jn 1) (.t 23)),jv 25 (.bin .andNot (.t 22) (.t 24)),jm 6 25] []) zrP)
def zgA:AC:=(.reg [] [jv 52 (.bin .add (.t 18) (jn 1)),jm 18 52] [])
def zok:AC:=(.seq (.block 1 (.seq (.reg [] [jv 20 (.idx (.t 16) (.t 18) 1),jv 21 (.load .s (.t 20)),jm 8 21] []) zpf)) zgA)
def zqa:AC:=(.seq (.cond (.t 19) .skip (.exit 0)) zok)
def NG:AC:=(.seq (.reg [] [jv 19 (.bin .lss (.t 18) (.t 17))] []) zqa)
def Qx:AC:=(.seq (.reg [] [jv 53 (.load (.ag [.p]) (.t 5)),jz (.store (.ag [.p]) (.t 4) (.t 53))] []) .ret)
def zlY:AC:=(.block 0 (.loop NG))
def zlB:AC:=(.seq (.seq (.reg [] [jm 16 1,jv 17 (.len (.t 16)),jv 18 (.mov (jn 0))] []) zlY) Qx)
def znj:AC:=(.seq (.reg [] [jv 14 (.load (.ag [.p]) (.t 2)),jx 15 (.call (jf 28) [.t 14]),jm 6 15] []) zlB)
def znR:AC:=(.seq (.reg [.clr [13,5]] [jv 12 (.load (.ag [.p]) (.t 2)),jx 13 (.callO (jf 76) [.t 12]),jx 5 (.alloc (.agg [.sl .nl .s 0 []])),jz (.store (.ag [.p]) (.t 5) (.t 13))] []) znj)
def A63:AC:=(.seq (.reg [.clr [2,4]] [jx 2 (.box (.t 0)),jx 4 (.alloc (.agg [.sl .nl .s 0 []]))] []) znR)
def ztO:List An:=[⟨0,[.clr [2,4]],[],[],[]⟩,⟨1,[.clr [13,5]],[],[1001],[]⟩]
theorem c63:cC Try.prog Try.f63.ntmps ztO (Try.f63.body.getD .skip)=some A63:=by kernel_rfl
structure H63 (D:Den) (σ:Sig) (F:Nat):Prop where
 c76o:zrb (D 1000000076) F
 g76o:σ 1000000076=some (1,false)
 c28:C28 (D 28) F
 g28:σ 28=some (0,false)
 c29:C29 (D 29) F
 g29:σ 29=some (0,false)
abbrev R63 (r:(S1 LI)):(Nat→V)→Prop:=RR Try.prog [.cell 4 44] 0 false (Enc.enc (r:(S1 LI)))
section
variable {D:Den} {σ:Sig} {F:Nat} {r:(S1 LI)}
def wh (F:Nat) (x_24:Int) (q_45:Int) (e_46:Int) (x_2:LI) (x_25:Int) (r_47:LI) (c1:(NL Int)→Int→Int→Option (S1 LI)):Nat→(NL Int)→Int→Option (S1 LI)
 | 0,_,_=>none
 | k + 1,x_52,x_53=>
   bif decide (x_53 < (r_47.length:Int)) then
    (idx r_47 x_53).bind fun e_58=>
    (idx x_52.list e_58).bind fun e_59=>
    (vR .i64 1 e_58).bind fun q_60=>
    (idx x_52.list e_58).bind fun e_61=>
    (wh F x_24 q_45 e_46 x_2 x_25 r_47 c1 k) (NL.set x_52 e_58.toNat (ior .i64 e_59 (zK .i64 (yf .i64 e_46 (zK .i64 x_24 q_45)) q_60))) (w64 (x_53 + 1))
   else
    c1 x_52 (zK .i64 x_24 q_45) (w64 (x_25 + 1))
theorem zgC (H:H63 D σ F) (x_24:Int) (q_45:Int) (e_46:Int) (x_2:LI) (x_25:Int) (r_47:LI) (c1:(NL Int)→Int→Int→Option (S1 LI)) (Hc1:∀ (x_23:(NL Int)) (x_24:Int) (x_25:Int) (s:Nat→V),zl [(4,.ref (.bx 4) 0 [] (.agg [nI])),(5,.ref (.bx 5) 0 [] (.agg [oI 13 [0] x_23])),(6,ji x_24),(16,eL x_2),(17,ji (x_2.length:Int)),(18,ji x_25)] s→c1 x_23 x_24 x_25=some r→Run D σ (R63 r) (.run NG [.lp NG,.bk 0,.sq Qx]) s):∀ (k:Nat) (x_52:(NL Int)) (x_53:Int) (s:Nat→V),zl [(4,.ref (.bx 4) 0 [] (.agg [nI])),(5,.ref (.bx 5) 0 [] (.agg [oI 13 [0] x_52])),(6,ji (zK .i64 x_24 q_45)),(9,ji (yf .i64 e_46 (zK .i64 x_24 q_45))),(16,eL x_2),(17,ji (x_2.length:Int)),(18,ji x_25),(34,eL r_47),(35,ji (r_47.length:Int)),(36,ji x_53)] s→wh F x_24 q_45 e_46 x_2 x_25 r_47 c1 k x_52 x_53=some r→Run D σ (R63 r) (.run zhq [.lp zhq,.bk 2,.bk 1,.sq zgA,.lp NG,.bk 0,.sq Qx]) s:=by
 intro k
 induction k with
 | zero=>intro x_52 x_53 s _ h;exact nm h
 | succ k ih=>
   intro x_52 x_53 s hs h
   rw [wh] at h
   obtain ⟨h4,h5,h6,h9,h16,h17,h18,h34,h35,h36⟩:=hs
   refine .seq (rg (g2 36 35 (jb (decide (x_53 < (r_47.length:Int)))) h36 h35 fun h37=>gq (.nsq (.seq (zk (t:=decide (x_53 < (r_47.length:Int))) h37 h (fun h=>?_) (fun h=>?_))))))
   · refine .skip (.nsq (.seq (.block (.seq (rg ?_)))))
     obtain ⟨e_58,E_e_58,h⟩:=bind_some h
     refine gv (.ref .sh 0 [] (ji e_58)) (yz (t:=.sh) (lo:=0) (xs:=r_47) h34 h36 E_e_58 rfl rfl) fun h38=>g1 38 (ji e_58) h38 fun h39=>gm h39 fun h11=>gz [(4,_),(5,_),(6,_),(9,_),(11,_),(16,_),(17,_),(18,_),(34,_),(35,_),(36,_)] ⟨h4,h5,h6,h9,h11,h16,h17,h18,h34,h35,h36⟩ ?_
     rintro s ⟨h4,h5,h6,h9,h11,h16,h17,h18,h34,h35,h36⟩
     refine .nsq (rg (g1 5 (.ref (.bx 5) 0 [0] (oI 13 [0] x_52)) h5 fun h40=>gv (oI 13 [0] x_52) (Z7 h40 UB) fun h41=>gm h11 fun h42=>?_))
     obtain ⟨e_59,E_e_59,h⟩:=bind_some h
     refine gv (.ref (.at 13 [0]) e_58.toNat [] (ji e_59)) (wE (o:=x_52) h41 h42 E_e_59 rfl) fun h43=>g1 43 (ji e_59) h43 fun h44=>gm h9 fun h45=>gm h11 fun h46=>?_
     obtain ⟨q_60,E_q_60,h⟩:=bind_some h
     refine gv (ji q_60) (wP rfl h46 E_q_60) fun h47=>g2 45 47 (ji (zK .i64 (yf .i64 e_46 (zK .i64 x_24 q_45)) q_60)) h45 h47 fun h48=>g2 44 48 (ji (ior .i64 e_59 (zK .i64 (yf .i64 e_46 (zK .i64 x_24 q_45)) q_60))) h44 h48 fun h49=>?_
     obtain ⟨e_61,E_e_61,h⟩:=bind_some h
     refine gv (.ref (.at 13 [0]) e_58.toNat [] (ji e_61)) (wE (o:=x_52) h41 h42 E_e_61 rfl) fun h50=>yb (ji (ior .i64 e_59 (zK .i64 (yf .i64 e_46 (zK .i64 x_24 q_45)) q_60))) (zw h50 rfl) (zw h49 rfl) (wj (by first | rfl | simp [V.toks,V.tokss,Enc.toks_enc,ya])) ?_
     refine gz [(4,.ref (.bx 4) 0 [] (.agg [nI])),(5,.ref (.bx 5) 0 [] (.agg [oI 13 [0] (NL.set x_52 e_58.toNat (ior .i64 e_59 (zK .i64 (yf .i64 e_46 (zK .i64 x_24 q_45)) q_60)))])),(6,ji (zK .i64 x_24 q_45)),(9,ji (yf .i64 e_46 (zK .i64 x_24 q_45))),(16,eL x_2),(17,ji (x_2.length:Int)),(18,ji x_25),(34,eL r_47),(35,ji (r_47.length:Int)),(36,ji x_53)] ⟨zb h4 (zC rfl rfl (yr (zp rfl rfl))),zb h5 (zC rfl rfl (yr (zp (zh9 (α:=Int) (u:=ior .i64 e_59 (zK .i64 (yf .i64 e_46 (zK .i64 x_24 q_45)) q_60)) (i:=e_58.toNat) (o:=x_52)) rfl))),zb h6 rfl,zb h9 rfl,zb h16 uE,zb h17 rfl,zb h18 rfl,zb h34 uE,zb h35 rfl,zb h36 rfl⟩ ?_
     rintro s ⟨h4,h5,h6,h9,h16,h17,h18,h34,h35,h36⟩
     refine .nbk (.nsq (rg (g1 36 (ji (w64 (x_53 + 1))) h36 fun h51=>gm h51 fun h36=>gq (.nlp ?_))))
     exact ih (NL.set x_52 e_58.toNat (ior .i64 e_59 (zK .i64 (yf .i64 e_46 (zK .i64 x_24 q_45)) q_60))) (w64 (x_53 + 1)) _ ⟨h4,h5,h6,h9,h16,h17,h18,h34,h35,h36⟩ h
   refine .exit (.esq (.elp (.ebk (.nbk (.nsq (rg (g1 18 (ji (w64 (x_25 + 1))) h18 fun h52=>gm h52 fun h18=>gq (.nlp ?_))))))))
   exact Hc1 x_52 (zK .i64 x_24 q_45) (w64 (x_25 + 1)) _ ⟨h4,h5,h6,h16,h17,h18⟩ h
def xH (F:Nat) (x_2:LI) :Nat→(NL Int)→Int→Int→Option (S1 LI)
 | 0,_,_,_=>none
 | k + 1,x_23,x_24,x_25=>
   bif decide (x_25 < (x_2.length:Int)) then
    (idx x_2 x_25).bind fun e_44=>
    (vR .i64 1 e_44).bind fun q_45=>
    (idx x_23.list e_44).bind fun e_46=>
    (vG F (yf .i64 e_46 (zK .i64 x_24 q_45))).bind fun r_47=>
    wh F x_24 q_45 e_46 x_2 x_25 r_47 (xH F x_2 k) F x_23 0
   else
    some (S1.mk x_23.list)
theorem zgK (H:H63 D σ F) (x_2:LI) :∀ (k:Nat) (x_23:(NL Int)) (x_24:Int) (x_25:Int) (s:Nat→V),zl [(4,.ref (.bx 4) 0 [] (.agg [nI])),(5,.ref (.bx 5) 0 [] (.agg [oI 13 [0] x_23])),(6,ji x_24),(16,eL x_2),(17,ji (x_2.length:Int)),(18,ji x_25)] s→xH F x_2 k x_23 x_24 x_25=some r→Run D σ (R63 r) (.run NG [.lp NG,.bk 0,.sq Qx]) s:=by
 intro k
 induction k with
 | zero=>intro x_23 x_24 x_25 s _ h;exact nm h
 | succ k ih=>
   intro x_23 x_24 x_25 s hs h
   rw [xH] at h
   obtain ⟨h4,h5,h6,h16,h17,h18⟩:=hs
   refine .seq (rg (g2 18 17 (jb (decide (x_25 < (x_2.length:Int)))) h18 h17 fun h19=>gq (.nsq (.seq (zk (t:=decide (x_25 < (x_2.length:Int))) h19 h (fun h=>?_) (fun h=>?_))))))
   · refine .skip (.nsq (.seq (.block (.seq (rg ?_)))))
     obtain ⟨e_44,E_e_44,h⟩:=bind_some h
     refine gv (.ref .sh 0 [] (ji e_44)) (yz (t:=.sh) (lo:=0) (xs:=x_2) h16 h18 E_e_44 rfl rfl) fun h20=>g1 20 (ji e_44) h20 fun h21=>gm h21 fun h8=>gq (.nsq (.seq (rg (gm h6 fun h22=>gm h8 fun h23=>?_))))
     obtain ⟨q_45,E_q_45,h⟩:=bind_some h
     refine gv (ji q_45) (wP rfl h23 E_q_45) fun h24=>g2 22 24 (ji (zK .i64 x_24 q_45)) h22 h24 fun h25=>gm h25 fun h6=>gq (.nsq (.seq (rg (g1 5 (.ref (.bx 5) 0 [0] (oI 13 [0] x_23)) h5 fun h26=>gv (oI 13 [0] x_23) (Z7 h26 UB) fun h27=>gm h8 fun h28=>?_))))
     obtain ⟨e_46,E_e_46,h⟩:=bind_some h
     refine gv (.ref (.at 13 [0]) e_44.toNat [] (ji e_46)) (wE (o:=x_23) h27 h28 E_e_46 rfl) fun h29=>g1 29 (ji e_46) h29 fun h30=>gm h6 fun h31=>g2 30 31 (ji (yf .i64 e_46 (zK .i64 x_24 q_45))) h30 h31 fun h32=>gm h32 fun h9=>gq (.nsq (.seq (rg (gm h9 fun h33=>?_))))
     obtain ⟨r_47,E_r_47,h⟩:=bind_some h
     refine zF (m:=0) (al:=false) (r:=eL r_47) [Enc.enc (yf .i64 e_46 (zK .i64 x_24 q_45):Int)] (ze (v:=ji (yf .i64 e_46 (zK .i64 x_24 q_45))) h33 rfl rfl zx) (H.c29 _ _ E_r_47) H.g29 rfl rfl rfl rfl (gv (ji (r_47.length:Int)) (yu (xs:=r_47) rfl) fun h35=>g0 (ji 0) fun h36=>gq (.nsq (.block (.loop ?_))))
     exact zgC H x_24 q_45 e_46 x_2 x_25 r_47 (xH F x_2 k) ih F x_23 0 _ ⟨h4,h5,h6,h9,h16,h17,h18,rfl,h35,h36⟩ h
   refine .exit (.esq (.elp (.ebk (.nsq (.seq (rg (gv (.agg [oI 13 [0] x_23]) (Z7 (c:=.agg [oI 13 [0] x_23]) h5 (by simp [V.shape,V.shapes,yK,WP,Sh.beq,Sh.beqs])) fun h53=>yb (.agg [oI 13 [0] x_23]) (zw h4 rfl) (zw h53 rfl) ⟨by decide,by decide,rfl,(by simp [V.shape,V.shapes,yK,Sh.beq,Sh.beqs]),(by simp [V.shape,V.shapes,yK,Sh.beq,Sh.beqs]),(by simp [V.toks,V.tokss,ya])⟩ (gz [(4,.ref (.bx 4) 0 [] (.agg [oI 13 [0] x_23]))] (zb h4 rfl) ?_))))))))
   rintro s h4
   refine .nsq (.ret ?_)
   have hr:=Option.some.inj h
   subst hr
   exact rrA (wN h4 (by simp only [V.shape,V.shapes,yK];kernel_rfl)) (vh (Q7 (xe (vA (o:=x_23)) uj)) (XB (x9 (xB rfl) u6)))
def vL (F:Nat) (x_1:(S1 LI)) (x_2:LI):Option (S1 LI):=
 (uv F x_1).bind fun r_3=>
 (yg F x_1).bind fun r_4=>
 xH F x_2 F r_3.a r_4 0
theorem t63 (H:H63 D σ F) (x_1:(S1 LI)) (x_2:LI) (s:Nat→V) (hs:zl [(0,.agg [eL x_1.a]),(1,eL x_2)] s) (h:vL F x_1 x_2=some r):Run D σ (R63 r) (.run A63 []) s:=by
 unfold vL at h
 obtain ⟨h0,h1⟩:=hs
 refine .seq (zq (zS ?_))
 refine ez [(0,_),(1,_),(2,_),(4,_)] ⟨za h0 rfl (zA (zd me zh)),za h1 rfl me,zc rfl,zc rfl⟩ ?_
 rintro s ⟨h0,h1,h2,h4⟩
 refine xz (.agg [eL x_1.a]) (zw h0 rfl) h2 rfl (xk h4 (gq (.nsq (.seq (zq (zS ?_))))))
 refine ez [(1,_),(2,_),(4,_),(5,_),(13,_)] ⟨za h1 rfl me,za rfl rfl (zf rfl (zA (zd me zh))),za rfl rfl (zf rfl (zA (zd rfl zh))),zc rfl,zc rfl⟩ ?_
 rintro s ⟨h1,h2,h4,h5,h13⟩
 refine g1 2 (.agg [eL x_1.a]) h2 fun h12=>?_
 obtain ⟨r_3,E_r_3,h⟩:=bind_some h
 refine ZA (m:=1) (al:=false) (r:=.agg [zi .sh (r_3.a:NL Int)]) (v:=.agg [oI 13 [0] r_3.a]) (kk:=1000000076) [Enc.enc (x_1:(S1 LI))] (ze (v:=.agg [eL x_1.a]) h12 rfl (Enc.erase_enc (x_1:(S1 LI))) zx) (H.c76o _ _ E_r_3) H.g76o rfl (UH (yk vf yH)) (J9 (Ze vX Ul)) rfl h13 (xk h5 (yb (.agg [oI 13 [0] r_3.a]) (zw rfl rfl) (zw rfl rfl) ⟨by decide,by decide,rfl,(by simp [V.shape,V.shapes,yK,Sh.beq,Sh.beqs]),(by simp [V.shape,V.shapes,yK,Sh.beq,Sh.beqs]),(by simp [V.toks,V.tokss,ya])⟩ ?_))
 refine gz [(1,eL x_2),(2,.ref (.bx 2) 0 [] (.agg [eL x_1.a])),(4,.ref (.bx 4) 0 [] (.agg [nI])),(5,.ref (.bx 5) 0 [] (.agg [oI 13 [0] r_3.a]))] ⟨zb h1 uE,zb h2 (zC rfl rfl (yr (zp uE rfl))),zb h4 (zC rfl rfl (yr (zp rfl rfl))),zb rfl rfl⟩ ?_
 rintro s ⟨h1,h2,h4,h5⟩
 refine .nsq (.seq (rg (g1 2 (.agg [eL x_1.a]) h2 fun h14=>?_)))
 obtain ⟨r_4,E_r_4,h⟩:=bind_some h
 refine zF (m:=0) (al:=false) (r:=Enc.enc (r_4:Int)) [Enc.enc (x_1:(S1 LI))] (ze (v:=.agg [eL x_1.a]) h14 rfl (Enc.erase_enc (x_1:(S1 LI))) zx) (H.c28 _ _ E_r_4) H.g28 rfl rfl rfl rfl (gm (rf (ji r_4)) fun h6=>gq (.nsq (.seq (.seq (rg (gm h1 fun h16=>gv (ji (x_2.length:Int)) (yu (xs:=x_2) h16) fun h17=>g0 (ji 0) fun h18=>gq (.nsq (.block (.loop ?_)))))))))
 exact zgK H x_2 F r_3.a r_4 0 _ ⟨h4,h5,h6,h16,h17,h18⟩ h
end
def e63 (F:Nat):Ent:=ent 63 (fun (x:((S1 LI)×LI×Unit))=>vL F x.1 x.2.1) (fun (r:(S1 LI))=>(Enc.enc (r:(S1 LI)))) 0 false []
abbrev C63 (D:List V→Option V) (F:Nat):Prop:=∀ (x0:(S1 LI)) (x1:LI) r,vL F x0 x1=some r→D [Enc.enc x0,Enc.enc x1]=some (Enc.enc (r:(S1 LI)))
theorem p63 {F:Nat}:C63 (e63 F).den F:=fun x0 x1 _ h=>zN (x0,x1,()) h
theorem o63 {D:Den} {σ:Sig} {F:Nat} (hF:zy Try.prog D σ) (H:H63 D σ F):(e63 F).Ok Try.prog:=by
 refine yl (f:=63) (show unk 63=63 from rfl) (fun args r h=>?_) ⟨Try.f63,Try.func63,rfl,rfl⟩
 obtain ⟨⟨x0,x1,_⟩,y,rfl,hy,rfl⟩:=zM h
 exact zm hF (by kernel_rfl) Try.func63 rfl c63 (show 2≤Try.f63.ntmps by decide) (t63 H x0 x1 _ ⟨rfl,rfl⟩ hy)
def zp8:AC:=(.reg [.clr [33,34]] [jm 25 7,jv 26 (.fld (.t 5) 0 0),jv 27 (.load .p (.t 26)),jm 28 9,jv 29 (.idx (.t 27) (.t 28) 1),jv 30 (.load .s (.t 29)),jm 31 6,jv 32 (.bin .and (.t 30) (.t 31)),jx 33 (.lit i0 1 [(0,0,.t 32)]),jx 34 (.app .s (.t 25) (.t 33)),jm 7 34] [.home 34 7])
def zqw:AC:=(.seq (.reg [] [jm 21 6,jm 22 9,jv 23 (.bin .shl (jn 1) (.t 22)),jv 24 (.bin .andNot (.t 21) (.t 23)),jm 6 24] []) zp8)
def zra:AC:=(.reg [] [jv 35 (.bin .add (.t 17) (jn 1)),jm 17 35] [])
def zpO:AC:=(.seq (.block 1 (.seq (.reg [] [jv 19 (.idx (.t 15) (.t 17) 1),jv 20 (.load .s (.t 19)),jm 9 20] []) zqw)) zra)
def zqP:AC:=(.seq (.cond (.t 18) .skip (.exit 0)) zpO)
def zhC:AC:=(.seq (.reg [] [jv 18 (.bin .lss (.t 17) (.t 16))] []) zqP)
def zle:AC:=(.seq (.reg [] [jm 36 7,jm 4 36] [.home 7 4]) .ret)
def zmt:AC:=(.block 0 (.loop zhC))
def zl1:AC:=(.seq (.seq (.reg [] [jm 15 1,jv 16 (.len (.t 15)),jv 17 (.mov (jn 0))] []) zmt) zle)
def znT:AC:=(.seq (.reg [] [jv 7 (.mov (.k (.sl .nl .s 0 [])))] []) zl1)
def zsg:AC:=(.seq (.reg [] [jv 13 (.load (.ag [.p]) (.t 2)),jx 14 (.call (jf 28) [.t 13]),jm 6 14] []) znT)
def zrQ:AC:=(.seq (.reg [.clr [5]] [jv 10 (.load (.ag [.p]) (.t 2)),jm 11 1,jx 12 (.call (jf 63) [.t 10,.t 11]),jx 5 (.alloc (.agg [.sl .nl .s 0 []])),jz (.store (.ag [.p]) (.t 5) (.t 12))] []) zsg)
def A41:AC:=(.seq (.reg [.clr [2]] [jx 2 (.box (.t 0)),jv 4 (.mov (.k (.sl .nl .s 0 [])))] []) zrQ)
def zut:List An:=[⟨0,[.clr [2]],[],[],[]⟩,⟨1,[.clr [5]],[],[],[]⟩,⟨8,[.clr [33,34]],[],[],[.home 34 7]⟩,⟨10,[],[],[],[.home 7 4]⟩]
theorem c41:cC Try.prog Try.f41.ntmps zut (Try.f41.body.getD .skip)=some A41:=by kernel_rfl
structure H41 (D:Den) (σ:Sig) (F:Nat):Prop where
 c63:C63 (D 63) F
 g63:σ 63=some (0,false)
 c28:C28 (D 28) F
 g28:σ 28=some (0,false)
abbrev R41 (r:LI):(Nat→V)→Prop:=RR Try.prog [.tmp 4] 0 false (eL r)
section
variable {D:Den} {σ:Sig} {F:Nat} {r:LI}
def yL (F:Nat) (r_3:(S1 LI)) (x_2:LI) :Nat→Int→(NL Int)→Int→Option LI
 | 0,_,_,_=>none
 | k + 1,x_9,x_10,x_11=>
   bif decide (x_11 < (x_2.length:Int)) then
    (idx x_2 x_11).bind fun e_16=>
    (vR .i64 1 e_16).bind fun q_17=>
    (idx r_3.a e_16).bind fun e_18=>
    (wS x_10.list [yf .i64 e_18 (zK .i64 x_9 q_17)]).bind fun ap_19=>
    (yL F r_3 x_2 k) (zK .i64 x_9 q_17) (.of ap_19) (w64 (x_11 + 1))
   else
    some x_10.list
theorem zgB (H:H41 D σ F) (r_3:(S1 LI)) (x_2:LI) :∀ (k:Nat) (x_9:Int) (x_10:(NL Int)) (x_11:Int) (s:Nat→V),zl [(4,nI),(5,.ref (.bx 5) 0 [] (.agg [eL r_3.a])),(6,ji x_9),(7,oI 7 [] x_10),(15,eL x_2),(16,ji (x_2.length:Int)),(17,ji x_11)] s→yL F r_3 x_2 k x_9 x_10 x_11=some r→Run D σ (R41 r) (.run zhC [.lp zhC,.bk 0,.sq zle]) s:=by
 intro k
 induction k with
 | zero=>intro x_9 x_10 x_11 s _ h;exact nm h
 | succ k ih=>
   intro x_9 x_10 x_11 s hs h
   rw [yL] at h
   obtain ⟨h4,h5,h6,h7,h15,h16,h17⟩:=hs
   refine .seq (rg (g2 17 16 (jb (decide (x_11 < (x_2.length:Int)))) h17 h16 fun h18=>gq (.nsq (.seq (zk (t:=decide (x_11 < (x_2.length:Int))) h18 h (fun h=>?_) (fun h=>?_))))))
   · refine .skip (.nsq (.seq (.block (.seq (rg ?_)))))
     obtain ⟨e_16,E_e_16,h⟩:=bind_some h
     refine gv (.ref .sh 0 [] (ji e_16)) (yz (t:=.sh) (lo:=0) (xs:=x_2) h15 h17 E_e_16 rfl rfl) fun h19=>g1 19 (ji e_16) h19 fun h20=>gm h20 fun h9=>gq (.nsq (.seq (rg (gm h6 fun h21=>gm h9 fun h22=>?_))))
     obtain ⟨q_17,E_q_17,h⟩:=bind_some h
     refine gv (ji q_17) (wP rfl h22 E_q_17) fun h23=>g2 21 23 (ji (zK .i64 x_9 q_17)) h21 h23 fun h24=>gm h24 fun h6=>gq (.nsq (zq (zS ?_)))
     refine ez [(4,_),(5,_),(6,_),(7,_),(9,_),(15,_),(16,_),(17,_),(33,_),(34,_)] ⟨za h4 rfl rfl,za h5 rfl (zf rfl (zA (zd me zh))),za h6 rfl mi,za h7 rfl (zj (r:=7) (p:=[]) rfl rfl),za h9 rfl mi,za h15 rfl me,za h16 rfl mi,za h17 rfl mi,zc rfl,zc rfl⟩ ?_
     rintro s ⟨h4,h5,h6,h7,h9,h15,h16,h17,h33,h34⟩
     refine gv (oI 7 [] x_10) (wa h7 yI) fun h25=>g1 5 (.ref (.bx 5) 0 [0] (eL r_3.a)) h5 fun h26=>g1 26 (eL r_3.a) h26 fun h27=>gm h9 fun h28=>?_
     obtain ⟨e_18,E_e_18,h⟩:=bind_some h
     refine gv (.ref .sh 0 [] (ji e_18)) (yz (t:=.sh) (lo:=0) (xs:=r_3.a) h27 h28 E_e_18 rfl rfl) fun h29=>g1 29 (ji e_18) h29 fun h30=>gm h6 fun h31=>g2 30 31 (ji (yf .i64 e_18 (zK .i64 x_9 q_17))) h30 h31 fun h32=>xT [(32,ji (yf .i64 e_18 (zK .i64 x_9 q_17)))] [Enc.enc (yf .i64 e_18 (zK .i64 x_9 q_17):Int)] h32 rfl rfl h33 ?_
     obtain ⟨ap_19,E_ap_19,h⟩:=bind_some h
     refine Xz (q:=7) (p:=[]) (o:=(x_10:NL Int)) (ys:=([yf .i64 e_18 (zK .i64 x_9 q_17)]:LI)) (t2:=.at 33 []) (lo2:=0) h25 rfl rfl h34 (ZJ (o:=(x_10:NL Int)) E_ap_19 (by split <;> simp)) (fun s_10 ha_10=>gm (rf (oI 34 [] (.of ap_19))) fun h7=>yQ (yC (r:=34) (x:=7) (v:=_) h7 rfl (fun s_11 hg_11=>?_)))
     refine ez [(4,nI),(5,.ref (.bx 5) 0 [] (.agg [eL r_3.a])),(6,ji (zK .i64 x_9 q_17)),(7,oI 7 [] (.of ap_19)),(15,eL x_2),(16,ji (x_2.length:Int)),(17,ji x_11)] ⟨hg_11 4 _ nI (show s_10 4=nI from zJ ha_10 h4 rfl) rfl,hg_11 5 _ _ (show s_10 5=(.ref (.bx 5) 0 [] (.agg [eL r_3.a])) from zJ ha_10 h5 (zf rfl (zA (zd me zh)))) (zf rfl (zA (zd me zh))),hg_11 6 _ _ (show s_10 6=(ji (zK .i64 x_9 q_17)) from zJ ha_10 h6 mi) mi,hg_11 7 _ _ h7 (zj (r:=34) (p:=[]) rfl rfl),hg_11 15 _ _ (show s_10 15=(eL x_2) from zJ ha_10 h15 me) me,hg_11 16 _ _ (show s_10 16=(ji (x_2.length:Int)) from zJ ha_10 h16 mi) mi,hg_11 17 _ _ (show s_10 17=(ji x_11) from zJ ha_10 h17 mi) mi⟩ ?_
     rintro s ⟨h4,h5,h6,h7,h15,h16,h17⟩
     refine .nbk (.nsq (rg (g1 17 (ji (w64 (x_11 + 1))) h17 fun h35=>gm h35 fun h17=>gq (.nlp ?_))))
     exact ih (zK .i64 x_9 q_17) (.of ap_19) (w64 (x_11 + 1)) _ ⟨h4,h5,h6,h7,h15,h16,h17⟩ h
   refine .exit (.esq (.elp (.ebk (.nsq (.seq (rg (gv (oI 7 [] x_10) (wa h7 yI) fun h36=>gv (oI 7 [] x_10) (wa h36 yI) fun h4=>yQ (yC (r:=7) (x:=4) (v:=_) h4 yI (fun s_12 hg_12=>?_)))))))))
   refine ez [(4,oI 4 [] x_10)] (hg_12 4 _ _ h4 (zj (r:=7) (p:=[]) rfl rfl)) ?_
   rintro s h4
   refine .nsq (.ret ?_)
   have hr:=Option.some.inj h
   subst hr
   exact rrA (zn h4) (vh (vA (o:=x_10)) (xB rfl))
def xq (F:Nat) (x_1:(S1 LI)) (x_2:LI):Option LI:=
 (vL F x_1 x_2).bind fun r_3=>
 (yg F x_1).bind fun r_4=>
 yL F r_3 x_2 F r_4 .nil 0
theorem t41 (H:H41 D σ F) (x_1:(S1 LI)) (x_2:LI) (s:Nat→V) (hs:zl [(0,.agg [eL x_1.a]),(1,eL x_2)] s) (h:xq F x_1 x_2=some r):Run D σ (R41 r) (.run A41 []) s:=by
 unfold xq at h
 obtain ⟨h0,h1⟩:=hs
 refine .seq (zq (zS ?_))
 refine ez [(0,_),(1,_),(2,_)] ⟨za h0 rfl (zA (zd me zh)),za h1 rfl me,zc rfl⟩ ?_
 rintro s ⟨h0,h1,h2⟩
 refine xz (.agg [eL x_1.a]) (zw h0 rfl) h2 rfl (g0 nI fun h4=>gq (.nsq (.seq (zq (zS ?_)))))
 refine ez [(1,_),(2,_),(4,_),(5,_)] ⟨za h1 rfl me,za rfl rfl (zf rfl (zA (zd me zh))),za h4 rfl rfl,zc rfl⟩ ?_
 rintro s ⟨h1,h2,h4,h5⟩
 refine g1 2 (.agg [eL x_1.a]) h2 fun h10=>gm h1 fun h11=>?_
 obtain ⟨r_3,E_r_3,h⟩:=bind_some h
 refine zF (m:=0) (al:=false) (r:=Enc.enc (r_3:(S1 LI))) [Enc.enc (x_1:(S1 LI)),eL x_2] (ze (v:=.agg [eL x_1.a]) h10 rfl (Enc.erase_enc (x_1:(S1 LI))) (ze (v:=eL x_2) h11 rfl (Enc.erase_enc (x_2:LI)) zx)) (H.c63 _ _ _ E_r_3) H.g63 rfl rfl rfl rfl (xk h5 (yb (.agg [eL r_3.a]) (zw rfl rfl) (zw rfl rfl) (wj (by first | rfl | simp [V.toks,V.tokss,Enc.toks_enc,ya])) (gz [(1,eL x_2),(2,.ref (.bx 2) 0 [] (.agg [eL x_1.a])),(4,nI),(5,.ref (.bx 5) 0 [] (.agg [eL r_3.a]))] ⟨zb h1 uE,zb h2 (zC rfl rfl (yr (zp uE rfl))),zb h4 rfl,zb rfl rfl⟩ ?_)))
 rintro s ⟨h1,h2,h4,h5⟩
 refine .nsq (.seq (rg (g1 2 (.agg [eL x_1.a]) h2 fun h13=>?_)))
 obtain ⟨r_4,E_r_4,h⟩:=bind_some h
 refine zF (m:=0) (al:=false) (r:=Enc.enc (r_4:Int)) [Enc.enc (x_1:(S1 LI))] (ze (v:=.agg [eL x_1.a]) h13 rfl (Enc.erase_enc (x_1:(S1 LI))) zx) (H.c28 _ _ E_r_4) H.g28 rfl rfl rfl rfl (gm (rf (ji r_4)) fun h6=>gq (.nsq (.seq (rg (g0 nI fun h7=>gq (.nsq (.seq (.seq (rg (gm h1 fun h15=>gv (ji (x_2.length:Int)) (yu (xs:=x_2) h15) fun h16=>g0 (ji 0) fun h17=>gq (.nsq (.block (.loop ?_)))))))))))))
 exact zgB H r_3 x_2 F r_4 .nil 0 _ ⟨h4,h5,h6,h7,h15,h16,h17⟩ h
end
def e41 (F:Nat):Ent:=ent 41 (fun (x:((S1 LI)×LI×Unit))=>xq F x.1 x.2.1) (fun (r:LI)=>(eL r)) 0 false []
abbrev C41 (D:List V→Option V) (F:Nat):Prop:=∀ (x0:(S1 LI)) (x1:LI) r,xq F x0 x1=some r→D [Enc.enc x0,Enc.enc x1]=some (eL r)
theorem p41 {F:Nat}:C41 (e41 F).den F:=fun x0 x1 _ h=>zN (x0,x1,()) h
theorem o41 {D:Den} {σ:Sig} {F:Nat} (hF:zy Try.prog D σ) (H:H41 D σ F):(e41 F).Ok Try.prog:=by
 refine yl (f:=41) (show unk 41=41 from rfl) (fun args r h=>?_) ⟨Try.f41,Try.func41,rfl,rfl⟩
 obtain ⟨⟨x0,x1,_⟩,y,rfl,hy,rfl⟩:=zM h
 exact zm hF (by kernel_rfl) Try.func41 rfl c41 (show 2≤Try.f41.ntmps by decide) (t41 H x0 x1 _ ⟨rfl,rfl⟩ hy)
def zsH:AC:=(.reg [] [jm 27 6,jm 28 8,jv 29 (.conv .u64 (.t 28)),jx 30 (.call (jf 35) [.t 29]),jv 31 (.mx [.t 27,.t 30]),jm 6 31] [])
def zqg:AC:=(.reg [] [jv 32 (.bin .add (.t 23) (jn 1)),jm 23 32] [])
def zop:AC:=(.seq (.block 1 (.seq (.reg [] [jv 25 (.idx (.t 21) (.t 23) 1),jv 26 (.load .s (.t 25)),jm 8 26] []) zsH)) zqg)
def zsV:AC:=(.seq (.cond (.t 24) .skip (.exit 0)) zop)
def zgJ:AC:=(.seq (.reg [] [jv 24 (.bin .lss (.t 23) (.t 22))] []) zsV)
def zk4:AC:=(.seq (.reg [] [jm 33 6,jm 4 33,jv 5 (.mov kt)] []) .ret)
def zlc:AC:=(.cond (.t 17) (.seq (.reg [] [jv 4 (.mov (jn 0)),jv 5 (.mov kf)] []) .ret) .skip)
def zmV:AC:=(.block 0 (.loop zgJ))
def zs2:AC:=(.seq (.seq (.reg [] [jv 18 (.load (.ag [.s,.p]) (.t 2)),jx 19 (.call (jf 20) [.t 18]),jm 20 1,jx 21 (.call (jf 41) [.t 19,.t 20]),jv 22 (.len (.t 21)),jv 23 (.mov (jn 0))] []) zmV) zk4)
def zk8:AC:=(.seq (.reg [] [jv 6 (.mov (jn (-1)))] []) zs2)
def zlV:AC:=(.seq (.seq (.reg [] [jv 9 (.load (.ag [.s,.p]) (.t 2)),jx 10 (.call (jf 19) [.t 9]),jv 11 (.un .not (.t 10)),jm 12 11,jg 13 12 false (.load (.ag [.s,.p]) (.t 2)),jg 14 12 false (.mov (.t 1)),.mk (some 15) (some (12,false)) false (.call (jf 40) [.t 13,.t 14]),jg 16 12 false (.un .not (.t 15)),jv 17 (.pick (.t 12) kt (.t 16))] []) zlc) zk8)
def A15:AC:=(.seq (.reg [.clr [2]] [jx 2 (.box (.t 0)),jv 4 (.mov (jn 0)),jv 5 (.mov kf)] []) zlV)
def ztT:List An:=[⟨0,[.clr [2]],[],[],[]⟩]
theorem c15:cC Try.prog Try.f15.ntmps ztT (Try.f15.body.getD .skip)=some A15:=by kernel_rfl
structure H15 (D:Den) (σ:Sig) (F:Nat):Prop where
 c19:C19 (D 19) F
 g19:σ 19=some (0,false)
 c40:C40 (D 40) F
 g40:σ 40=some (0,false)
 c20:C20 (D 20) F
 g20:σ 20=some (0,false)
 c41:C41 (D 41) F
 g41:σ 41=some (0,false)
 c35:C35 (D 35) F
 g35:σ 35=some (0,false)
abbrev R15 (r:(Int×Bool)):(Nat→V)→Prop:=RR Try.prog [.tmp 4,.tmp 5] 0 false (.tup [Enc.enc (r.1:Int),Enc.enc (r.2:Bool)])
section
variable {D:Den} {σ:Sig} {F:Nat} {r:(Int×Bool)}
def xr (F:Nat) (r_7:LI) :Nat→Int→Int→Option (Int×Bool)
 | 0,_,_=>none
 | k + 1,x_10,x_11=>
   bif decide (x_11 < (r_7.length:Int)) then
    (idx r_7 x_11).bind fun e_14=>
    (xS F (Kd.mk (IntKind.u64.wrap e_14):Kd .u64)).bind fun r_15=>
    (xr F r_7 k) (if r_15 > x_10 then r_15 else x_10) (w64 (x_11 + 1))
   else
    some (x_10,true)
theorem zgz (H:H15 D σ F) (r_7:LI) :∀ (k:Nat) (x_10:Int) (x_11:Int) (s:Nat→V),zl [(4,ji 0),(5,jb false),(6,ji x_10),(21,eL r_7),(22,ji (r_7.length:Int)),(23,ji x_11)] s→xr F r_7 k x_10 x_11=some r→Run D σ (R15 r) (.run zgJ [.lp zgJ,.bk 0,.sq zk4]) s:=by
 intro k
 induction k with
 | zero=>intro x_10 x_11 s _ h;exact nm h
 | succ k ih=>
   intro x_10 x_11 s hs h
   rw [xr] at h
   obtain ⟨h4,h5,h6,h21,h22,h23⟩:=hs
   refine .seq (rg (g2 23 22 (jb (decide (x_11 < (r_7.length:Int)))) h23 h22 fun h24=>gq (.nsq (.seq (zk (t:=decide (x_11 < (r_7.length:Int))) h24 h (fun h=>?_) (fun h=>?_))))))
   · refine .skip (.nsq (.seq (.block (.seq (rg ?_)))))
     obtain ⟨e_14,E_e_14,h⟩:=bind_some h
     refine gv (.ref .sh 0 [] (ji e_14)) (yz (t:=.sh) (lo:=0) (xs:=r_7) h21 h23 E_e_14 rfl rfl) fun h25=>g1 25 (ji e_14) h25 fun h26=>gm h26 fun h8=>gq (.nsq (rg (gm h6 fun h27=>gm h8 fun h28=>g1 28 (.int .u64 (IntKind.u64.wrap e_14)) h28 fun h29=>?_)))
     obtain ⟨r_15,E_r_15,h⟩:=bind_some h
     refine zF (m:=0) (al:=false) (r:=Enc.enc (r_15:Int)) [Enc.enc ((Kd.mk (IntKind.u64.wrap e_14):Kd .u64):(Kd .u64))] (ze (v:=.int .u64 (IntKind.u64.wrap e_14)) h29 rfl rfl zx) (H.c35 _ _ E_r_15) H.g35 rfl rfl rfl rfl (g2 27 30 (ji (if r_15 > x_10 then r_15 else x_10)) h27 (rf (ji r_15)) fun h31=>gm h31 fun h6=>gq (.nbk (.nsq (rg (g1 23 (ji (w64 (x_11 + 1))) h23 fun h32=>gm h32 fun h23=>gq (.nlp ?_))))))
     exact ih (if r_15 > x_10 then r_15 else x_10) (w64 (x_11 + 1)) _ ⟨h4,h5,h6,h21,h22,h23⟩ h
   refine .exit (.esq (.elp (.ebk (.nsq (.seq (rg (gm h6 fun h33=>gm h33 fun h4=>g0 (jb true) fun h5=>gq (.nsq (.ret ?_)))))))))
   have hr:=Option.some.inj h
   subst hr
   exact rrB (zn h4) (zn h5) rfl
def wv (F:Nat) (x_2:LI) (x_1:GR)  (x_5:Bool):Option (Int×Bool):=
 bif x_5 then
  some (0,false)
 else
  (vS F x_1).bind fun r_6=>
  (xq F r_6 x_2).bind fun r_7=>
  xr F r_7 F (-1) 0
theorem zcu (H:H15 D σ F) (x_2:LI) (x_1:GR)  (x_5:Bool) (s:Nat→V) (hs:zl [(1,eL x_2),(2,bG 2 x_1),(4,ji 0),(5,jb false),(17,jb x_5)] s) (h:wv F x_2 x_1  x_5=some r):Run D σ (R15 r) (.nrm [.sq zlc,.sq zk8]) s:=by
 unfold wv at h
 obtain ⟨h1,h2,h4,h5,h17⟩:=hs
 refine .nsq (zk (t:=x_5) h17 h (fun h=>?_) (fun h=>?_))
 · refine .seq (rg (g0 (ji 0) fun h4=>g0 (jb false) fun h5=>gq (.nsq (.ret ?_))))
   have hr:=Option.some.inj h
   subst hr
   exact rrB (zn h4) (zn h5) rfl
 refine .skip (.nsq (.seq (rg (g0 (ji (-1)) fun h6=>gq (.nsq (.seq (.seq (rg (g1 2 (gV x_1) h2 fun h18=>?_)))))))))
 obtain ⟨r_6,E_r_6,h⟩:=bind_some h
 refine zF (m:=0) (al:=false) (r:=Enc.enc (r_6:(S1 LI))) [Enc.enc (x_1:GR)] (ze (v:=gV x_1) h18 rfl (Enc.erase_enc (x_1:GR)) zx) (H.c20 _ _ E_r_6) H.g20 rfl rfl rfl rfl (gm h1 fun h20=>?_)
 obtain ⟨r_7,E_r_7,h⟩:=bind_some h
 refine zF (m:=0) (al:=false) (r:=eL r_7) [Enc.enc (r_6:(S1 LI)),eL x_2] (ze (v:=.agg [eL r_6.a]) rfl rfl (Enc.erase_enc (r_6:(S1 LI))) (ze (v:=eL x_2) h20 rfl (Enc.erase_enc (x_2:LI)) zx)) (H.c41 _ _ _ E_r_7) H.g41 rfl rfl rfl rfl (gv (ji (r_7.length:Int)) (yu (xs:=r_7) rfl) fun h22=>g0 (ji 0) fun h23=>gq (.nsq (.block (.loop ?_))))
 exact zgz H r_7 F (-1) 0 _ ⟨h4,h5,h6,rfl,h22,h23⟩ h
def yX (F:Nat) (x_1:GR) (x_2:LI):Option (Int×Bool):=
 (wq F x_1).bind fun r_16=>
 bif (!r_16) then
  wv F x_2 x_1 true
 else
  (Yw F x_1 x_2).bind fun r_17=>
  wv F x_2 x_1 (!r_17)
theorem t15 (H:H15 D σ F) (x_1:GR) (x_2:LI) (s:Nat→V) (hs:zl [(0,gV x_1),(1,eL x_2)] s) (h:yX F x_1 x_2=some r):Run D σ (R15 r) (.run A15 []) s:=by
 unfold yX at h
 obtain ⟨h0,h1⟩:=hs
 refine .seq (zq (zS ?_))
 refine ez [(0,_),(1,_),(2,_)] ⟨za h0 rfl mIE,za h1 rfl me,zc rfl⟩ ?_
 rintro s ⟨h0,h1,h2⟩
 refine xz (gV x_1) (zw h0 rfl) h2 rfl (g0 (ji 0) fun h4=>g0 (jb false) fun h5=>gq (.nsq (.seq (.seq (rg (g1 2 (gV x_1) (rf (bG 2 x_1)) fun h9=>?_))))))
 obtain ⟨r_16,E_r_16,h⟩:=bind_some h
 refine zF (m:=0) (al:=false) (r:=Enc.enc (r_16:Bool)) [Enc.enc (x_1:GR)] (ze (v:=gV x_1) h9 rfl (Enc.erase_enc (x_1:GR)) zx) (H.c19 _ _ E_r_16) H.g19 rfl rfl rfl rfl (g1 10 (jb (!r_16)) (rf (jb r_16)) fun h11=>gm h11 fun h12=>zW (c:=(!r_16)) h (fun hg4 h=>?_) (fun hg4 h=>?_))
 · iterate 4 refine z9 (ct h12 hg4) ?_
   refine g2 12 16 (jb true) (ct h12 hg4) (rf (.tup [])) fun h17=>gq ?_
   exact zcu H x_2 x_1 true _ ⟨h1,rfl,h4,h5,h17⟩ h
 refine zg (ct h12 hg4) (g1 2 (gV x_1) (rf (bG 2 x_1)) fun h13=>zg (ct h12 hg4) (gm h1 fun h14=>?_))
 obtain ⟨r_17,E_r_17,h⟩:=bind_some h
 refine zg (ct h12 hg4) (zF (m:=0) (al:=false) (r:=Enc.enc (r_17:Bool)) [Enc.enc (x_1:GR),eL x_2] (ze (v:=gV x_1) h13 rfl (Enc.erase_enc (x_1:GR)) (ze (v:=eL x_2) h14 rfl (Enc.erase_enc (x_2:LI)) zx)) (H.c40 _ _ _ E_r_17) H.g40 rfl rfl rfl rfl (zg (ct h12 hg4) (g1 15 (jb (!r_17)) (rf (jb r_17)) fun h16=>g2 12 16 (jb (!r_17)) (ct h12 hg4) h16 fun h17=>gq ?_)))
 exact zcu H x_2 x_1 (!r_17) _ ⟨h1,rfl,h4,h5,h17⟩ h
end
def e15 (F:Nat):Ent:=ent 15 (fun (x:(GR×LI×Unit))=>yX F x.1 x.2.1) (fun (r:(Int×Bool))=>(.tup [Enc.enc (r.1:Int),Enc.enc (r.2:Bool)])) 0 false []
abbrev C15 (D:List V→Option V) (F:Nat):Prop:=∀ (x0:GR) (x1:LI) r,yX F x0 x1=some r→D [Enc.enc x0,Enc.enc x1]=some (.tup [Enc.enc (r.1:Int),Enc.enc (r.2:Bool)])
theorem p15 {F:Nat}:C15 (e15 F).den F:=fun x0 x1 _ h=>zN (x0,x1,()) h
theorem o15 {D:Den} {σ:Sig} {F:Nat} (hF:zy Try.prog D σ) (H:H15 D σ F):(e15 F).Ok Try.prog:=by
 refine yl (f:=15) (show unk 15=15 from rfl) (fun args r h=>?_) ⟨Try.f15,Try.func15,rfl,rfl⟩
 obtain ⟨⟨x0,x1,_⟩,y,rfl,hy,rfl⟩:=zM h
 exact zm hF (by kernel_rfl) Try.func15 rfl c15 (show 2≤Try.f15.ntmps by decide) (t15 H x0 x1 _ ⟨rfl,rfl⟩ hy)
def zre:AC:=(.cond (.t 22) (.reg [] [jm 23 5,jm 24 7,jv 25 (.bin .shl (jn 1) (.t 24)),jv 26 (.bin .or (.t 23) (.t 25)),jm 5 26] []) .skip)
def zqp:AC:=(.seq (.reg [] [jv 15 (.fld (.t 2) 0 0),jv 16 (.load .p (.t 15)),jm 17 7,jv 18 (.idx (.t 16) (.t 17) 1),jv 19 (.load .s (.t 18)),jm 20 1,jv 21 (.bin .andNot (.t 19) (.t 20)),jv 22 (.bin .neq (.t 21) (jn 0))] []) zre)
def zk3:AC:=(.reg [] [jv 27 (.bin .add (.t 11) (jn 1)),jm 11 27] [])
def zpB:AC:=(.seq (.block 1 (.seq (.reg [] [jv 13 (.idx (.t 9) (.t 11) 1),jv 14 (.load .s (.t 13)),jm 7 14] []) zqp)) zk3)
def zpa:AC:=(.seq (.cond (.t 12) .skip (.exit 0)) zpB)
def N7:AC:=(.seq (.reg [] [jv 12 (.bin .lss (.t 11) (.t 10))] []) zpa)
def ze3:AC:=(.seq (.reg [] [jm 28 5,jm 4 28] []) .ret)
def zlX:AC:=(.block 0 (.loop N7))
def zrL:AC:=(.seq (.seq (.reg [] [jm 8 1,jx 9 (.call (jf 29) [.t 8]),jv 10 (.len (.t 9)),jv 11 (.mov (jn 0))] []) zlX) ze3)
def zqT:AC:=(.seq (.reg [] [jv 5 (.mov (jn 0))] []) zrL)
def A77:AC:=(.seq (.reg [.clr [2]] [jx 2 (.box (.t 0)),jv 4 (.mov (jn 0))] []) zqT)
def zuk:List An:=[⟨0,[.clr [2]],[],[],[]⟩]
theorem c77:cC Try.prog Try.f77.ntmps zuk (Try.f77.body.getD .skip)=some A77:=by kernel_rfl
structure H77 (D:Den) (σ:Sig) (F:Nat):Prop where
 c29:C29 (D 29) F
 g29:σ 29=some (0,false)
abbrev R77 (r:Int):(Nat→V)→Prop:=RR Try.prog [.tmp 4] 0 false (Enc.enc (r:Int))
section
variable {D:Den} {σ:Sig} {F:Nat} {r:Int}
def uI (F:Nat) (x_2:Int) (x_1:(S1 LI)) (r_3:LI) (x_10:Int) (c1:Int→Int→Option Int) (x_19:Int):Option Int:=
 c1 x_19 (w64 (x_10 + 1))
theorem zbY (H:H77 D σ F) (x_2:Int) (x_1:(S1 LI)) (r_3:LI) (x_10:Int) (c1:Int→Int→Option Int) (Hc1:∀ (x_9:Int) (x_10:Int) (s:Nat→V),zl [(1,ji x_2),(2,.ref (.bx 2) 0 [] (.agg [eL x_1.a])),(4,ji 0),(5,ji x_9),(9,eL r_3),(10,ji (r_3.length:Int)),(11,ji x_10)] s→c1 x_9 x_10=some r→Run D σ (R77 r) (.run N7 [.lp N7,.bk 0,.sq ze3]) s) (x_19:Int) (s:Nat→V) (hs:zl [(1,ji x_2),(2,.ref (.bx 2) 0 [] (.agg [eL x_1.a])),(4,ji 0),(5,ji x_19),(9,eL r_3),(10,ji (r_3.length:Int)),(11,ji x_10)] s) (h:uI F x_2 x_1 r_3 x_10 c1 x_19=some r):Run D σ (R77 r) (.nrm [.bk 1,.sq zk3,.lp N7,.bk 0,.sq ze3]) s:=by
 unfold uI at h
 obtain ⟨h1,h2,h4,h5,h9,h10,h11⟩:=hs
 refine .nbk (.nsq (rg (g1 11 (ji (w64 (x_10 + 1))) h11 fun h27=>gm h27 fun h11=>gq (.nlp ?_))))
 exact Hc1 x_19 (w64 (x_10 + 1)) _ ⟨h1,h2,h4,h5,h9,h10,h11⟩ h
def xQ (F:Nat) (x_2:Int) (x_1:(S1 LI)) (r_3:LI) :Nat→Int→Int→Option Int
 | 0,_,_=>none
 | k + 1,x_9,x_10=>
   bif decide (x_10 < (r_3.length:Int)) then
    (idx r_3 x_10).bind fun e_16=>
    (idx x_1.a e_16).bind fun e_17=>
    bif ((zK .i64 e_17 x_2) != 0) then
     (vR .i64 1 e_16).bind fun q_20=>
     uI F x_2 x_1 r_3 x_10 (xQ F x_2 x_1 r_3 k) (ior .i64 x_9 q_20)
    else
     uI F x_2 x_1 r_3 x_10 (xQ F x_2 x_1 r_3 k) x_9
   else
    some x_9
theorem zgV (H:H77 D σ F) (x_2:Int) (x_1:(S1 LI)) (r_3:LI) :∀ (k:Nat) (x_9:Int) (x_10:Int) (s:Nat→V),zl [(1,ji x_2),(2,.ref (.bx 2) 0 [] (.agg [eL x_1.a])),(4,ji 0),(5,ji x_9),(9,eL r_3),(10,ji (r_3.length:Int)),(11,ji x_10)] s→xQ F x_2 x_1 r_3 k x_9 x_10=some r→Run D σ (R77 r) (.run N7 [.lp N7,.bk 0,.sq ze3]) s:=by
 intro k
 induction k with
 | zero=>intro x_9 x_10 s _ h;exact nm h
 | succ k ih=>
   intro x_9 x_10 s hs h
   rw [xQ] at h
   obtain ⟨h1,h2,h4,h5,h9,h10,h11⟩:=hs
   refine .seq (rg (g2 11 10 (jb (decide (x_10 < (r_3.length:Int)))) h11 h10 fun h12=>gq (.nsq (.seq (zk (t:=decide (x_10 < (r_3.length:Int))) h12 h (fun h=>?_) (fun h=>?_))))))
   · refine .skip (.nsq (.seq (.block (.seq (rg ?_)))))
     obtain ⟨e_16,E_e_16,h⟩:=bind_some h
     refine gv (.ref .sh 0 [] (ji e_16)) (yz (t:=.sh) (lo:=0) (xs:=r_3) h9 h11 E_e_16 rfl rfl) fun h13=>g1 13 (ji e_16) h13 fun h14=>gm h14 fun h7=>gq (.nsq (.seq (rg (g1 2 (.ref (.bx 2) 0 [0] (eL x_1.a)) h2 fun h15=>g1 15 (eL x_1.a) h15 fun h16=>gm h7 fun h17=>?_))))
     obtain ⟨e_17,E_e_17,h⟩:=bind_some h
     refine gv (.ref .sh 0 [] (ji e_17)) (yz (t:=.sh) (lo:=0) (xs:=x_1.a) h16 h17 E_e_17 rfl rfl) fun h18=>g1 18 (ji e_17) h18 fun h19=>gm h1 fun h20=>g2 19 20 (ji (zK .i64 e_17 x_2)) h19 h20 fun h21=>g1 21 (jb ((zK .i64 e_17 x_2) != 0)) h21 fun h22=>gq (.nsq (zk (t:=((zK .i64 e_17 x_2) != 0)) h22 h (fun h=>?_) (fun h=>?_)))
     · refine rg (gm h5 fun h23=>gm h7 fun h24=>?_)
       obtain ⟨q_20,E_q_20,h⟩:=bind_some h
       refine gv (ji q_20) (wP rfl h24 E_q_20) fun h25=>g2 23 25 (ji (ior .i64 x_9 q_20)) h23 h25 fun h26=>gm h26 fun h5=>gq ?_
       exact zbY H x_2 x_1 r_3 x_10 (xQ F x_2 x_1 r_3 k) ih (ior .i64 x_9 q_20) _ ⟨h1,h2,h4,h5,h9,h10,h11⟩ h
     refine .skip ?_
     exact zbY H x_2 x_1 r_3 x_10 (xQ F x_2 x_1 r_3 k) ih x_9 _ ⟨h1,h2,h4,h5,h9,h10,h11⟩ h
   refine .exit (.esq (.elp (.ebk (.nsq (.seq (rg (gm h5 fun h28=>gm h28 fun h4=>gq (.nsq (.ret ?_)))))))))
   have hr:=Option.some.inj h
   subst hr
   exact rrA (zn h4) rfl
def uM (F:Nat) (x_1:(S1 LI)) (x_2:Int):Option Int:=
 (vG F x_2).bind fun r_3=>
 xQ F x_2 x_1 r_3 F 0 0
theorem t77 (H:H77 D σ F) (x_1:(S1 LI)) (x_2:Int) (s:Nat→V) (hs:zl [(0,.agg [eL x_1.a]),(1,ji x_2)] s) (h:uM F x_1 x_2=some r):Run D σ (R77 r) (.run A77 []) s:=by
 unfold uM at h
 obtain ⟨h0,h1⟩:=hs
 refine .seq (zq (zS ?_))
 refine ez [(0,_),(1,_),(2,_)] ⟨za h0 rfl (zA (zd me zh)),za h1 rfl mi,zc rfl⟩ ?_
 rintro s ⟨h0,h1,h2⟩
 refine xz (.agg [eL x_1.a]) (zw h0 rfl) h2 rfl (g0 (ji 0) fun h4=>gq (.nsq (.seq (rg (g0 (ji 0) fun h5=>gq (.nsq (.seq (.seq (rg (gm h1 fun h8=>?_))))))))))
 obtain ⟨r_3,E_r_3,h⟩:=bind_some h
 refine zF (m:=0) (al:=false) (r:=eL r_3) [Enc.enc (x_2:Int)] (ze (v:=ji x_2) h8 rfl rfl zx) (H.c29 _ _ E_r_3) H.g29 rfl rfl rfl rfl (gv (ji (r_3.length:Int)) (yu (xs:=r_3) rfl) fun h10=>g0 (ji 0) fun h11=>gq (.nsq (.block (.loop ?_))))
 exact zgV H x_2 x_1 r_3 F 0 0 _ ⟨h1,rfl,h4,h5,rfl,h10,h11⟩ h
end
def e77 (F:Nat):Ent:=ent 77 (fun (x:((S1 LI)×Int×Unit))=>uM F x.1 x.2.1) (fun (r:Int)=>(Enc.enc (r:Int))) 0 false []
abbrev C77 (D:List V→Option V) (F:Nat):Prop:=∀ (x0:(S1 LI)) (x1:Int) r,uM F x0 x1=some r→D [Enc.enc x0,Enc.enc x1]=some (Enc.enc (r:Int))
theorem p77 {F:Nat}:C77 (e77 F).den F:=fun x0 x1 _ h=>zN (x0,x1,()) h
theorem o77 {D:Den} {σ:Sig} {F:Nat} (hF:zy Try.prog D σ) (H:H77 D σ F):(e77 F).Ok Try.prog:=by
 refine yl (f:=77) (show unk 77=77 from rfl) (fun args r h=>?_) ⟨Try.f77,Try.func77,rfl,rfl⟩
 obtain ⟨⟨x0,x1,_⟩,y,rfl,hy,rfl⟩:=zM h
 exact zm hF (by kernel_rfl) Try.func77 rfl c77 (show 2≤Try.f77.ntmps by decide) (t77 H x0 x1 _ ⟨rfl,rfl⟩ hy)
def zq5:AC:=(.seq (.reg [] [jv 7 (.load (.ag [.p]) (.t 3)),jm 8 1,jm 9 2,jv 10 (.bin .shl (jn 1) (.t 9)),jv 11 (.bin .or (.t 8) (.t 10)),jx 12 (.call (jf 77) [.t 7,.t 11]),jv 13 (.conv .u64 (.t 12)),jx 14 (.call (jf 35) [.t 13]),jm 6 14] []) .ret)
def A64:AC:=(.seq (.reg [.clr [3]] [jx 3 (.box (.t 0)),jv 6 (.mov (jn 0))] []) zq5)
def ztU:List An:=[⟨0,[.clr [3]],[],[],[]⟩]
theorem c64:cC Try.prog Try.f64.ntmps ztU (Try.f64.body.getD .skip)=some A64:=by kernel_rfl
structure H64 (D:Den) (σ:Sig) (F:Nat):Prop where
 c77:C77 (D 77) F
 g77:σ 77=some (0,false)
 c35:C35 (D 35) F
 g35:σ 35=some (0,false)
abbrev R64 (r:Int):(Nat→V)→Prop:=RR Try.prog [.tmp 6] 0 false (Enc.enc (r:Int))
section
variable {D:Den} {σ:Sig} {F:Nat} {r:Int}
def xj (F:Nat) (x_1:(S1 LI)) (x_2:Int) (x_3:Int):Option Int:=
 (vR .i64 1 x_3).bind fun q_4=>
 (uM F x_1 (ior .i64 x_2 q_4)).bind fun r_5=>
 (xS F (Kd.mk (IntKind.u64.wrap r_5):Kd .u64)).bind fun r_6=>
 some r_6
theorem t64 (H:H64 D σ F) (x_1:(S1 LI)) (x_2:Int) (x_3:Int) (s:Nat→V) (hs:zl [(0,.agg [eL x_1.a]),(1,ji x_2),(2,ji x_3)] s) (h:xj F x_1 x_2 x_3=some r):Run D σ (R64 r) (.run A64 []) s:=by
 unfold xj at h
 obtain ⟨h0,h1,h2⟩:=hs
 refine .seq (zq (zS ?_))
 refine ez [(0,_),(1,_),(2,_),(3,_)] ⟨za h0 rfl (zA (zd me zh)),za h1 rfl mi,za h2 rfl mi,zc rfl⟩ ?_
 rintro s ⟨h0,h1,h2,h3⟩
 refine xz (.agg [eL x_1.a]) (zw h0 rfl) h3 rfl (g0 (ji 0) fun h6=>gq (.nsq (.seq (rg (g1 3 (.agg [eL x_1.a]) (rf (.ref (.bx 3) 0 [] (.agg [eL x_1.a]))) fun h7=>gm h1 fun h8=>gm h2 fun h9=>?_)))))
 obtain ⟨q_4,E_q_4,h⟩:=bind_some h
 refine gv (ji q_4) (wP rfl h9 E_q_4) fun h10=>g2 8 10 (ji (ior .i64 x_2 q_4)) h8 h10 fun h11=>?_
 obtain ⟨r_5,E_r_5,h⟩:=bind_some h
 refine zF (m:=0) (al:=false) (r:=Enc.enc (r_5:Int)) [Enc.enc (x_1:(S1 LI)),Enc.enc (ior .i64 x_2 q_4:Int)] (ze (v:=.agg [eL x_1.a]) h7 rfl (Enc.erase_enc (x_1:(S1 LI))) (ze (v:=ji (ior .i64 x_2 q_4)) h11 rfl rfl zx)) (H.c77 _ _ _ E_r_5) H.g77 rfl rfl rfl rfl (g1 12 (.int .u64 (IntKind.u64.wrap r_5)) (rf (ji r_5)) fun h13=>?_)
 obtain ⟨r_6,E_r_6,h⟩:=bind_some h
 refine zF (m:=0) (al:=false) (r:=Enc.enc (r_6:Int)) [Enc.enc ((Kd.mk (IntKind.u64.wrap r_5):Kd .u64):(Kd .u64))] (ze (v:=.int .u64 (IntKind.u64.wrap r_5)) h13 rfl rfl zx) (H.c35 _ _ E_r_6) H.g35 rfl rfl rfl rfl (gm (rf (ji r_6)) fun h6=>gq (.nsq (.ret ?_)))
 have hr:=Option.some.inj h
 subst hr
 exact rrA (zn h6) rfl
end
def e64 (F:Nat):Ent:=ent 64 (fun (x:((S1 LI)×Int×Int×Unit))=>xj F x.1 x.2.1 x.2.2.1) (fun (r:Int)=>(Enc.enc (r:Int))) 0 false []
abbrev C64 (D:List V→Option V) (F:Nat):Prop:=∀ (x0:(S1 LI)) (x1:Int) (x2:Int) r,xj F x0 x1 x2=some r→D [Enc.enc x0,Enc.enc x1,Enc.enc x2]=some (Enc.enc (r:Int))
theorem p64 {F:Nat}:C64 (e64 F).den F:=fun x0 x1 x2 _ h=>zN (x0,x1,x2,()) h
theorem o64 {D:Den} {σ:Sig} {F:Nat} (hF:zy Try.prog D σ) (H:H64 D σ F):(e64 F).Ok Try.prog:=by
 refine yl (f:=64) (show unk 64=64 from rfl) (fun args r h=>?_) ⟨Try.f64,Try.func64,rfl,rfl⟩
 obtain ⟨⟨x0,x1,x2,_⟩,y,rfl,hy,rfl⟩:=zM h
 exact zm hF (by kernel_rfl) Try.func64 rfl c64 (show 3≤Try.f64.ntmps by decide) (t64 H x0 x1 x2 _ ⟨rfl,rfl,rfl⟩ hy)
def zjn:AC:=(.cond (.t 19) .skip (.exit 0))
def zbt:AC:=(.cond (.t 58) (.reg [] [jm 59 7,jm 60 8,jm 61 11,jv 62 (.idx (.t 59) (.t 60) 1),jz (.store .s (.t 62) (.t 61))] []) .skip)
def zgx:AC:=(.seq (.reg [] [jm 49 9,jv 50 (.bin .eql (.t 49) (jn 0)),jm 51 50,jg 52 51 false (.mov (.t 11)),jg 53 51 false (.mov (.t 7)),jg 54 51 false (.mov (.t 8)),jg 55 51 false (.idx (.t 53) (.t 54) 1),jg 56 51 false (.load .s (.t 55)),jg 57 51 false (.bin .lss (.t 52) (.t 56)),jv 58 (.pick (.t 51) kt (.t 57))] []) zbt)
def zka:AC:=(.seq (.reg [] [jm 37 2,jm 38 8,jm 39 10,jx 40 (.call (.t 37) [.t 38,.t 39]),jm 41 7,jm 42 8,jm 43 10,jv 44 (.bin .shl (jn 1) (.t 43)),jv 45 (.bin .or (.t 42) (.t 44)),jv 46 (.idx (.t 41) (.t 45) 1),jv 47 (.load .s (.t 46)),jv 48 (.mx [.t 40,.t 47]),jm 11 48] []) zgx)
def MQ:AC:=(.reg [] [jv 63 (.bin .add (.t 32) (jn 1)),jm 32 63] [])
def zjD:AC:=(.seq (.block 3 (.seq (.reg [] [jm 34 32,jv 35 (.idx (.t 30) (.t 32) 1),jv 36 (.load .s (.t 35)),jm 9 34,jm 10 36] []) zka)) MQ)
def zjx:AC:=(.seq (.cond (.t 33) .skip (.exit 2)) zjD)
def Xh:AC:=(.seq (.reg [] [jv 33 (.bin .lss (.t 32) (.t 31))] []) zjx)
def zjB:AC:=(.block 2 (.loop Xh))
def zjT:AC:=(.seq (.reg [] [jv 26 (.load (.ag [.p]) (.t 3)),jx 27 (.call (jf 28) [.t 26]),jm 28 8,jv 29 (.bin .andNot (.t 27) (.t 28)),jx 30 (.call (jf 29) [.t 29]),jv 31 (.len (.t 30)),jv 32 (.mov (jn 0))] []) zjB)
def Wl:AC:=(.reg [] [jm 20 8,jv 21 (.bin .sub (.t 20) (jn 1)),jm 8 21] [])
def zkn:AC:=(.seq (.block 1 (.seq (.reg [] [jm 22 7,jm 23 8,jm 24 1,jv 25 (.idx (.t 22) (.t 23) 1),jz (.store .s (.t 25) (.t 24))] []) zjT)) Wl)
def uA:AC:=(.seq (.seq (.reg [] [jm 18 8,jv 19 (.bin .geq (.t 18) (jn 0))] []) zjn) zkn)
def Zs:AC:=(.seq (.reg [] [jm 64 7,jm 6 64] [.home 7 6]) .ret)
def zir:AC:=(.block 0 (.loop uA))
def zib:AC:=(.seq (.seq (.reg [] [jv 16 (.load (.ag [.p]) (.t 3)),jx 17 (.call (jf 28) [.t 16]),jm 8 17] []) zir) Zs)
def zjg:AC:=(.seq (.reg [.clr [15]] [jv 12 (.load (.ag [.p]) (.t 3)),jx 13 (.call (jf 28) [.t 12]),jv 14 (.bin .add (.t 13) (jn 1)),jx 15 (.mk (.t 14) i0 i0),jm 7 15] [.home 15 7]) zib)
def zk6:AC:=(.seq (.reg [.clr [3]] [jx 3 (.box (.t 0)),jv 6 (.mov (.k (.sl .nl .s 0 [])))] []) zjg)
def zm6:List An:=[⟨0,[.clr [3]],[],[],[]⟩,⟨1,[.clr [15]],[],[],[.home 15 7]⟩,⟨13,[],[],[],[.home 7 6]⟩]
theorem c50s2:cC Try.prog Try.f50.ntmps zm6 (Try.f50.body.getD .skip)=some zk6:=by kernel_rfl
structure Qd (D:Den) (σ:Sig) (F:Nat):Prop where
 c28:C28 (D 28) F
 g28:σ 28=some (0,false)
 c29:C29 (D 29) F
 g29:σ 29=some (0,false)
 c64:C64 (D 64) F
 g64:σ 64=some (0,false)
abbrev Jc (r:LI):(Nat→V)→Prop:=RR Try.prog [.tmp 6] 0 false (eL r)
section
variable {D:Den} {σ:Sig} {F:Nat} {r:LI}
def yB (F:Nat) (x_2:Int) (x_3:(Cl 64 ((S1 LI)×Unit) Unit)) (x_1:(S1 LI)) (x_43:Int) (r_81:LI) (x_93:Int) (c1:LI→Int→Option LI) (c4:LI→Int→Option LI) (x_111:LI):Option LI:=
 c4 x_111 (w64 (x_93 + 1))
theorem Mg (H:Qd D σ F) (x_2:Int) (x_3:(Cl 64 ((S1 LI)×Unit) Unit)) (x_1:(S1 LI)) (x_43:Int) (r_81:LI) (x_93:Int) (c1:LI→Int→Option LI) (Hc1:∀ (x_42:LI) (x_43:Int) (s:Nat→V),zl [(1,ji x_2),(2,.fn 64 [.agg [eL x_3.fs.1.a]] []),(3,.ref (.bx 3) 0 [] (.agg [eL x_1.a])),(6,nI),(7,oI 7 [] (.of x_42)),(8,ji x_43)] s→c1 x_42 x_43=some r→Run D σ (Jc r) (.run uA [.lp uA,.bk 0,.sq Zs]) s) (c4:LI→Int→Option LI) (Hc4:∀ (x_92:LI) (x_93:Int) (s:Nat→V),zl [(1,ji x_2),(2,.fn 64 [.agg [eL x_3.fs.1.a]] []),(3,.ref (.bx 3) 0 [] (.agg [eL x_1.a])),(6,nI),(7,oI 7 [] (.of x_92)),(8,ji x_43),(30,eL r_81),(31,ji (r_81.length:Int)),(32,ji x_93)] s→c4 x_92 x_93=some r→Run D σ (Jc r) (.run Xh [.lp Xh,.bk 2,.bk 1,.sq Wl,.lp uA,.bk 0,.sq Zs]) s) (x_111:LI) (s:Nat→V) (hs:zl [(1,ji x_2),(2,.fn 64 [.agg [eL x_3.fs.1.a]] []),(3,.ref (.bx 3) 0 [] (.agg [eL x_1.a])),(6,nI),(7,oI 7 [] (.of x_111)),(8,ji x_43),(30,eL r_81),(31,ji (r_81.length:Int)),(32,ji x_93)] s) (h:yB F x_2 x_3 x_1 x_43 r_81 x_93 c1 c4 x_111=some r):Run D σ (Jc r) (.nrm [.bk 3,.sq MQ,.lp Xh,.bk 2,.bk 1,.sq Wl,.lp uA,.bk 0,.sq Zs]) s:=by
 unfold yB at h
 obtain ⟨h1,h2,h3,h6,h7,h8,h30,h31,h32⟩:=hs
 refine .nbk (.nsq (rg (g1 32 (ji (w64 (x_93 + 1))) h32 fun h63=>gm h63 fun h32=>gq (.nlp ?_))))
 exact Hc4 x_111 (w64 (x_93 + 1)) _ ⟨h1,h2,h3,h6,h7,h8,h30,h31,h32⟩ h
def yE (F:Nat) (x_2:Int) (x_3:(Cl 64 ((S1 LI)×Unit) Unit)) (x_1:(S1 LI)) (x_92:LI) (x_43:Int) (e_107:Int) (r_105:Int) (r_81:LI) (x_93:Int) (c1:LI→Int→Option LI) (c4:LI→Int→Option LI) (x_109:Bool):Option LI:=
 bif x_109 then
  (idx x_92 x_43).bind fun e_112=>
  yB F x_2 x_3 x_1 x_43 r_81 x_93 c1 c4 (x_92.set x_43.toNat (if e_107 > r_105 then e_107 else r_105))
 else
  yB F x_2 x_3 x_1 x_43 r_81 x_93 c1 c4 x_92
theorem MP (H:Qd D σ F) (x_2:Int) (x_3:(Cl 64 ((S1 LI)×Unit) Unit)) (x_1:(S1 LI)) (x_92:LI) (x_43:Int) (e_107:Int) (r_105:Int) (r_81:LI) (x_93:Int) (c1:LI→Int→Option LI) (Hc1:∀ (x_42:LI) (x_43:Int) (s:Nat→V),zl [(1,ji x_2),(2,.fn 64 [.agg [eL x_3.fs.1.a]] []),(3,.ref (.bx 3) 0 [] (.agg [eL x_1.a])),(6,nI),(7,oI 7 [] (.of x_42)),(8,ji x_43)] s→c1 x_42 x_43=some r→Run D σ (Jc r) (.run uA [.lp uA,.bk 0,.sq Zs]) s) (c4:LI→Int→Option LI) (Hc4:∀ (x_92:LI) (x_93:Int) (s:Nat→V),zl [(1,ji x_2),(2,.fn 64 [.agg [eL x_3.fs.1.a]] []),(3,.ref (.bx 3) 0 [] (.agg [eL x_1.a])),(6,nI),(7,oI 7 [] (.of x_92)),(8,ji x_43),(30,eL r_81),(31,ji (r_81.length:Int)),(32,ji x_93)] s→c4 x_92 x_93=some r→Run D σ (Jc r) (.run Xh [.lp Xh,.bk 2,.bk 1,.sq Wl,.lp uA,.bk 0,.sq Zs]) s) (x_109:Bool) (s:Nat→V) (hs:zl [(1,ji x_2),(2,.fn 64 [.agg [eL x_3.fs.1.a]] []),(3,.ref (.bx 3) 0 [] (.agg [eL x_1.a])),(6,nI),(7,oI 7 [] (.of x_92)),(8,ji x_43),(11,ji (if e_107 > r_105 then e_107 else r_105)),(30,eL r_81),(31,ji (r_81.length:Int)),(32,ji x_93),(58,jb x_109)] s) (h:yE F x_2 x_3 x_1 x_92 x_43 e_107 r_105 r_81 x_93 c1 c4 x_109=some r):Run D σ (Jc r) (.nrm [.sq zbt,.bk 3,.sq MQ,.lp Xh,.bk 2,.bk 1,.sq Wl,.lp uA,.bk 0,.sq Zs]) s:=by
 unfold yE at h
 obtain ⟨h1,h2,h3,h6,h7,h8,h11,h30,h31,h32,h58⟩:=hs
 refine .nsq (zk (t:=x_109) h58 h (fun h=>?_) (fun h=>?_))
 · refine rg (gm h7 fun h59=>gm h8 fun h60=>gm h11 fun h61=>?_)
   obtain ⟨e_112,E_e_112,h⟩:=bind_some h
   refine gv (.ref (.at 7 []) x_43.toNat [] (ji e_112)) (wE (o:=.of x_92) h59 h60 E_e_112 rfl) fun h62=>yb (ji (if e_107 > r_105 then e_107 else r_105)) (zw h62 rfl) (zw h61 rfl) (wj (by first | rfl | simp [V.toks,V.tokss,Enc.toks_enc,ya])) ?_
   refine gz [(1,ji x_2),(2,.fn 64 [.agg [eL x_3.fs.1.a]] []),(3,.ref (.bx 3) 0 [] (.agg [eL x_1.a])),(6,nI),(7,_),(8,ji x_43),(30,eL r_81),(31,ji (r_81.length:Int)),(32,ji x_93)] ⟨zb h1 rfl,zb h2 (zaC (zp (yr (zp uE rfl)) rfl) rfl),zb h3 (zC rfl rfl (yr (zp uE rfl))),zb h6 rfl,zb h7 X0,zb h8 rfl,zb h30 uE,zb h31 rfl,zb h32 rfl⟩ ?_
   rintro s ⟨h1,h2,h3,h6,h7,h8,h30,h31,h32⟩
   exact Mg H x_2 x_3 x_1 x_43 r_81 x_93 c1 Hc1 c4 Hc4 (x_92.set x_43.toNat (if e_107 > r_105 then e_107 else r_105)) _ ⟨h1,h2,h3,h6,h7,h8,h30,h31,h32⟩ h
 refine .skip ?_
 exact Mg H x_2 x_3 x_1 x_43 r_81 x_93 c1 Hc1 c4 Hc4 x_92 _ ⟨h1,h2,h3,h6,h7,h8,h30,h31,h32⟩ h
def zI (F:Nat) (x_2:Int) (x_3:(Cl 64 ((S1 LI)×Unit) Unit)) (x_1:(S1 LI)) (x_43:Int) (r_81:LI) (c1:LI→Int→Option LI):Nat→LI→Int→Option LI
 | 0,_,_=>none
 | k + 1,x_92,x_93=>
   bif decide (x_93 < (r_81.length:Int)) then
    (idx r_81 x_93).bind fun e_104=>
    (xj F x_3.fs.1 x_43 e_104).bind fun r_105=>
    (vR .i64 1 e_104).bind fun q_106=>
    (idx x_92 (ior .i64 x_43 q_106)).bind fun e_107=>
    bif (x_93 == 0) then
     yE F x_2 x_3 x_1 x_92 x_43 e_107 r_105 r_81 x_93 c1 (zI F x_2 x_3 x_1 x_43 r_81 c1 k) true
    else
     (idx x_92 x_43).bind fun e_113=>
     yE F x_2 x_3 x_1 x_92 x_43 e_107 r_105 r_81 x_93 c1 (zI F x_2 x_3 x_1 x_43 r_81 c1 k) (decide ((if e_107 > r_105 then e_107 else r_105) < e_113))
   else
    c1 x_92 (w64 (x_43 - 1))
theorem zdr (H:Qd D σ F) (x_2:Int) (x_3:(Cl 64 ((S1 LI)×Unit) Unit)) (x_1:(S1 LI)) (x_43:Int) (r_81:LI) (c1:LI→Int→Option LI) (Hc1:∀ (x_42:LI) (x_43:Int) (s:Nat→V),zl [(1,ji x_2),(2,.fn 64 [.agg [eL x_3.fs.1.a]] []),(3,.ref (.bx 3) 0 [] (.agg [eL x_1.a])),(6,nI),(7,oI 7 [] (.of x_42)),(8,ji x_43)] s→c1 x_42 x_43=some r→Run D σ (Jc r) (.run uA [.lp uA,.bk 0,.sq Zs]) s):∀ (k:Nat) (x_92:LI) (x_93:Int) (s:Nat→V),zl [(1,ji x_2),(2,.fn 64 [.agg [eL x_3.fs.1.a]] []),(3,.ref (.bx 3) 0 [] (.agg [eL x_1.a])),(6,nI),(7,oI 7 [] (.of x_92)),(8,ji x_43),(30,eL r_81),(31,ji (r_81.length:Int)),(32,ji x_93)] s→zI F x_2 x_3 x_1 x_43 r_81 c1 k x_92 x_93=some r→Run D σ (Jc r) (.run Xh [.lp Xh,.bk 2,.bk 1,.sq Wl,.lp uA,.bk 0,.sq Zs]) s:=by
 intro k
 induction k with
 | zero=>intro x_92 x_93 s _ h;exact nm h
 | succ k ih=>
   intro x_92 x_93 s hs h
   rw [zI] at h
   obtain ⟨h1,h2,h3,h6,h7,h8,h30,h31,h32⟩:=hs
   refine .seq (rg (g2 32 31 (jb (decide (x_93 < (r_81.length:Int)))) h32 h31 fun h33=>gq (.nsq (.seq (zk (t:=decide (x_93 < (r_81.length:Int))) h33 h (fun h=>?_) (fun h=>?_))))))
   · refine .skip (.nsq (.seq (.block (.seq (rg (gm h32 fun h34=>?_))))))
     obtain ⟨e_104,E_e_104,h⟩:=bind_some h
     refine gv (.ref .sh 0 [] (ji e_104)) (yz (t:=.sh) (lo:=0) (xs:=r_81) h30 h32 E_e_104 rfl rfl) fun h35=>g1 35 (ji e_104) h35 fun h36=>gm h34 fun h9=>gm h36 fun h10=>gq (.nsq (.seq (rg (gm h2 fun h37=>gm h8 fun h38=>gm h10 fun h39=>?_))))
     obtain ⟨r_105,E_r_105,h⟩:=bind_some h
     refine LH (m:=0) (al:=false) (r:=Enc.enc (r_105:Int)) (fs:=[.agg [eL x_3.fs.1.a]]) (env:=[]) (us:=[Enc.enc (x_3.fs.1:(S1 LI))]) (ws:=[]) h37 (xN (Enc.erase_enc (x_3.fs.1:(S1 LI))) xf) xf rfl [Enc.enc (x_43:Int),Enc.enc (e_104:Int)] (ze (v:=ji x_43) h38 rfl rfl (ze (v:=ji e_104) h39 rfl rfl zx)) (H.c64 _ _ _ _ E_r_105) H.g64 rfl rfl rfl rfl (gm h7 fun h41=>gm h8 fun h42=>gm h10 fun h43=>?_)
     obtain ⟨q_106,E_q_106,h⟩:=bind_some h
     refine gv (ji q_106) (wP rfl h43 E_q_106) fun h44=>g2 42 44 (ji (ior .i64 x_43 q_106)) h42 h44 fun h45=>?_
     obtain ⟨e_107,E_e_107,h⟩:=bind_some h
     refine gv (.ref (.at 7 []) ((ior .i64 x_43 q_106).toNat) [] (ji e_107)) (wE (o:=.of x_92) h41 h45 E_e_107 rfl) fun h46=>g1 46 (ji e_107) h46 fun h47=>g2 40 47 (ji (if e_107 > r_105 then e_107 else r_105)) (rf (ji r_105)) h47 fun h48=>gm h48 fun h11=>gq (.nsq (.seq (rg (gm h9 fun h49=>g1 49 (jb (x_93 == 0)) h49 fun h50=>gm h50 fun h51=>zW (c:=(x_93 == 0)) h (fun hg3 h=>?_) (fun hg3 h=>?_)))))
     · iterate 6 refine z9 (ct h51 hg3) ?_
       refine g2 51 57 (jb true) (ct h51 hg3) (rf (.tup [])) fun h58=>gz [(1,_),(2,_),(3,_),(6,_),(7,_),(8,_),(11,_),(30,_),(31,_),(32,_),(58,_)] ⟨h1,h2,h3,h6,h7,h8,h11,h30,h31,h32,h58⟩ ?_
       rintro s ⟨h1,h2,h3,h6,h7,h8,h11,h30,h31,h32,h58⟩
       exact MP H x_2 x_3 x_1 x_92 x_43 e_107 r_105 r_81 x_93 c1 Hc1 (zI F x_2 x_3 x_1 x_43 r_81 c1 k) ih true _ ⟨h1,h2,h3,h6,h7,h8,h11,h30,h31,h32,h58⟩ h
     refine zg (ct h51 hg3) (gm h11 fun h52=>zg (ct h51 hg3) (gm h7 fun h53=>zg (ct h51 hg3) (gm h8 fun h54=>?_)))
     obtain ⟨e_113,E_e_113,h⟩:=bind_some h
     refine zg (ct h51 hg3) (gv (.ref (.at 7 []) x_43.toNat [] (ji e_113)) (wE (o:=.of x_92) h53 h54 E_e_113 rfl) fun h55=>zg (ct h51 hg3) (g1 55 (ji e_113) h55 fun h56=>zg (ct h51 hg3) (g2 52 56 (jb (decide ((if e_107 > r_105 then e_107 else r_105) < e_113))) h52 h56 fun h57=>g2 51 57 (jb (decide ((if e_107 > r_105 then e_107 else r_105) < e_113))) (ct h51 hg3) h57 fun h58=>gz [(1,_),(2,_),(3,_),(6,_),(7,_),(8,_),(11,_),(30,_),(31,_),(32,_),(58,_)] ⟨h1,h2,h3,h6,h7,h8,h11,h30,h31,h32,h58⟩ ?_)))
     rintro s ⟨h1,h2,h3,h6,h7,h8,h11,h30,h31,h32,h58⟩
     exact MP H x_2 x_3 x_1 x_92 x_43 e_107 r_105 r_81 x_93 c1 Hc1 (zI F x_2 x_3 x_1 x_43 r_81 c1 k) ih (decide ((if e_107 > r_105 then e_107 else r_105) < e_113)) _ ⟨h1,h2,h3,h6,h7,h8,h11,h30,h31,h32,h58⟩ h
   refine .exit (.esq (.elp (.ebk (.nbk (.nsq (rg (gm h8 fun h20=>g1 20 (ji (w64 (x_43 - 1))) h20 fun h21=>gm h21 fun h8=>gq (.nlp ?_))))))))
   exact Hc1 x_92 (w64 (x_43 - 1)) _ ⟨h1,h2,h3,h6,h7,h8⟩ h
def zD (F:Nat) (x_2:Int) (x_3:(Cl 64 ((S1 LI)×Unit) Unit)) (x_1:(S1 LI)) :Nat→LI→Int→Option LI
 | 0,_,_=>none
 | k + 1,x_42,x_43=>
   bif decide (x_43≥0) then
    (idx x_42 x_43).bind fun e_79=>
    (yg F x_1).bind fun r_80=>
    (vG F (zK .i64 r_80 x_43)).bind fun r_81=>
    zI F x_2 x_3 x_1 x_43 r_81 (zD F x_2 x_3 x_1 k) F (x_42.set x_43.toNat x_2) 0
   else
    some x_42
theorem zdp (H:Qd D σ F) (x_2:Int) (x_3:(Cl 64 ((S1 LI)×Unit) Unit)) (x_1:(S1 LI)) :∀ (k:Nat) (x_42:LI) (x_43:Int) (s:Nat→V),zl [(1,ji x_2),(2,.fn 64 [.agg [eL x_3.fs.1.a]] []),(3,.ref (.bx 3) 0 [] (.agg [eL x_1.a])),(6,nI),(7,oI 7 [] (.of x_42)),(8,ji x_43)] s→zD F x_2 x_3 x_1 k x_42 x_43=some r→Run D σ (Jc r) (.run uA [.lp uA,.bk 0,.sq Zs]) s:=by
 intro k
 induction k with
 | zero=>intro x_42 x_43 s _ h;exact nm h
 | succ k ih=>
   intro x_42 x_43 s hs h
   rw [zD] at h
   obtain ⟨h1,h2,h3,h6,h7,h8⟩:=hs
   refine .seq (.seq (rg (gm h8 fun h18=>g1 18 (jb (decide (x_43≥0))) h18 fun h19=>gq (.nsq (zk (t:=decide (x_43≥0)) h19 h (fun h=>?_) (fun h=>?_))))))
   · refine .skip (.nsq (.seq (.block (.seq (rg (gm h7 fun h22=>gm h8 fun h23=>gm h1 fun h24=>?_))))))
     obtain ⟨e_79,E_e_79,h⟩:=bind_some h
     refine gv (.ref (.at 7 []) x_43.toNat [] (ji e_79)) (wE (o:=.of x_42) h22 h23 E_e_79 rfl) fun h25=>yb (ji x_2) (zw h25 rfl) (zw h24 rfl) (wj (by first | rfl | simp [V.toks,V.tokss,Enc.toks_enc,ya])) (gz [(1,ji x_2),(2,.fn 64 [.agg [eL x_3.fs.1.a]] []),(3,.ref (.bx 3) 0 [] (.agg [eL x_1.a])),(6,nI),(7,_),(8,ji x_43)] ⟨zb h1 rfl,zb h2 (zaC (zp (yr (zp uE rfl)) rfl) rfl),zb h3 (zC rfl rfl (yr (zp uE rfl))),zb h6 rfl,zb h7 X0,zb h8 rfl⟩ ?_)
     rintro s ⟨h1,h2,h3,h6,h7,h8⟩
     refine .nsq (.seq (rg (g1 3 (.agg [eL x_1.a]) h3 fun h26=>?_)))
     obtain ⟨r_80,E_r_80,h⟩:=bind_some h
     refine zF (m:=0) (al:=false) (r:=Enc.enc (r_80:Int)) [Enc.enc (x_1:(S1 LI))] (ze (v:=.agg [eL x_1.a]) h26 rfl (Enc.erase_enc (x_1:(S1 LI))) zx) (H.c28 _ _ E_r_80) H.g28 rfl rfl rfl rfl (gm h8 fun h28=>g2 27 28 (ji (zK .i64 r_80 x_43)) (rf (ji r_80)) h28 fun h29=>?_)
     obtain ⟨r_81,E_r_81,h⟩:=bind_some h
     refine zF (m:=0) (al:=false) (r:=eL r_81) [Enc.enc (zK .i64 r_80 x_43:Int)] (ze (v:=ji (zK .i64 r_80 x_43)) h29 rfl rfl zx) (H.c29 _ _ E_r_81) H.g29 rfl rfl rfl rfl (gv (ji (r_81.length:Int)) (yu (xs:=r_81) rfl) fun h31=>g0 (ji 0) fun h32=>gq (.nsq (.block (.loop ?_))))
     exact zdr H x_2 x_3 x_1 x_43 r_81 (zD F x_2 x_3 x_1 k) ih F (x_42.set x_43.toNat x_2) 0 _ ⟨h1,h2,h3,h6,h7,h8,rfl,h31,h32⟩ h
   refine .exit (.esq (.elp (.ebk (.nsq (.seq (rg (gm h7 fun h64=>gm h64 fun h6=>yQ (yC (r:=7) (x:=6) (v:=_) h6 rfl (fun s_4 hg_4=>?_)))))))))
   refine ez [(6,oI 6 [] (.of x_42))] (hg_4 6 _ _ h6 (zj (r:=7) (p:=[]) rfl rfl)) ?_
   rintro s h6
   refine .nsq (.ret ?_)
   have hr:=Option.some.inj h
   subst hr
   exact rrA (zn h6) (vh (vA (o:=.of x_42)) (xB rfl))
def zX (F:Nat) (x_1:(S1 LI)) (x_2:Int) (x_3:(Cl 64 ((S1 LI)×Unit) Unit)):Option LI:=
 (yg F x_1).bind fun r_4=>
 (mkN (w64 (r_4 + 1)) (0:Int)).bind fun mk_5=>
 (yg F x_1).bind fun r_6=>
 zD F x_2 x_3 x_1 F mk_5 r_6
theorem zqN (H:Qd D σ F) (x_1:(S1 LI)) (x_2:Int) (x_3:(Cl 64 ((S1 LI)×Unit) Unit)) (s:Nat→V) (hs:zl [(0,.agg [eL x_1.a]),(1,ji x_2),(2,.fn 64 [.agg [eL x_3.fs.1.a]] [])] s) (h:zX F x_1 x_2 x_3=some r):Run D σ (Jc r) (.run zk6 []) s:=by
 unfold zX at h
 obtain ⟨h0,h1,h2⟩:=hs
 refine .seq (zq (zS ?_))
 refine ez [(0,_),(1,_),(2,_),(3,_)] ⟨za h0 rfl (zA (zd me zh)),za h1 rfl mi,za h2 rfl (X7 (zd (zA (zd me zh)) zh) zh),zc rfl⟩ ?_
 rintro s ⟨h0,h1,h2,h3⟩
 refine xz (.agg [eL x_1.a]) (zw h0 rfl) h3 rfl (g0 nI fun h6=>gq (.nsq (.seq (zq (zS ?_)))))
 refine ez [(1,_),(2,_),(3,_),(6,_),(15,_)] ⟨za h1 rfl mi,za h2 rfl (X7 (zd (zA (zd me zh)) zh) zh),za rfl rfl (zf rfl (zA (zd me zh))),za h6 rfl rfl,zc rfl⟩ ?_
 rintro s ⟨h1,h2,h3,h6,h15⟩
 refine g1 3 (.agg [eL x_1.a]) h3 fun h12=>?_
 obtain ⟨r_4,E_r_4,h⟩:=bind_some h
 refine zF (m:=0) (al:=false) (r:=Enc.enc (r_4:Int)) [Enc.enc (x_1:(S1 LI))] (ze (v:=.agg [eL x_1.a]) h12 rfl (Enc.erase_enc (x_1:(S1 LI))) zx) (H.c28 _ _ E_r_4) H.g28 rfl rfl rfl rfl (g1 13 (ji (w64 (r_4 + 1))) (rf (ji r_4)) fun h14=>?_)
 obtain ⟨mk_5,E_mk_5,h⟩:=bind_some h
 refine zki (0:Int) h14 rfl h15 E_mk_5 (gm (rf (oI 15 [] (.of mk_5))) fun h7=>yQ (yC (r:=15) (x:=7) (v:=_) h7 rfl (fun s_3 hg_3=>?_)))
 refine ez [(1,ji x_2),(2,.fn 64 [.agg [eL x_3.fs.1.a]] []),(3,.ref (.bx 3) 0 [] (.agg [eL x_1.a])),(6,nI),(7,oI 7 [] (.of mk_5))] ⟨hg_3 1 _ _ h1 mi,hg_3 2 _ _ h2 (X7 (zd (zA (zd me zh)) zh) zh),hg_3 3 _ _ h3 (zf rfl (zA (zd me zh))),hg_3 6 _ _ h6 rfl,hg_3 7 _ _ h7 (zj (r:=15) (p:=[]) rfl rfl)⟩ ?_
 rintro s ⟨h1,h2,h3,h6,h7⟩
 refine .nsq (.seq (.seq (rg (g1 3 (.agg [eL x_1.a]) h3 fun h16=>?_))))
 obtain ⟨r_6,E_r_6,h⟩:=bind_some h
 refine zF (m:=0) (al:=false) (r:=Enc.enc (r_6:Int)) [Enc.enc (x_1:(S1 LI))] (ze (v:=.agg [eL x_1.a]) h16 rfl (Enc.erase_enc (x_1:(S1 LI))) zx) (H.c28 _ _ E_r_6) H.g28 rfl rfl rfl rfl (gm (rf (ji r_6)) fun h8=>gq (.nsq (.block (.loop ?_))))
 exact zdp H x_2 x_3 x_1 F mk_5 r_6 _ ⟨h1,h2,h3,h6,h7,h8⟩ h
end
def zis (F:Nat):Ent:=ent 50 (fun (x:((S1 LI)×Int×(Cl 64 ((S1 LI)×Unit) Unit)×Unit))=>zX F x.1 x.2.1 x.2.2.1) (fun (r:LI)=>(eL r)) 0 false [(2,64)]
abbrev zk2 (D:List V→Option V) (F:Nat):Prop:=∀ (x0:(S1 LI)) (x1:Int) (x2:(Cl 64 ((S1 LI)×Unit) Unit)) r,zX F x0 x1 x2=some r→D [Enc.enc x0,Enc.enc x1,Arg.arg x2]=some (eL r)
theorem zq2 {F:Nat}:zk2 (zis F).den F:=fun x0 x1 x2 _ h=>zN (x0,x1,x2,()) h
theorem zoK {D:Den} {σ:Sig} {F:Nat} (hF:zy Try.prog D σ) (H:Qd D σ F):(zis F).Ok Try.prog:=by
 refine yl (f:=50) (show unk 50=50 from rfl) (fun args r h=>?_) ⟨Try.f50,Try.func50,rfl,rfl⟩
 obtain ⟨⟨x0,x1,x2,_⟩,y,rfl,hy,rfl⟩:=zM h
 exact zm hF (by kernel_rfl) Try.func50 rfl c50s2 (show 3≤Try.f50.ntmps by decide) (zqN H x0 x1 x2 _ ⟨rfl,rfl,rfl⟩ hy)
def zrK:AC:=(.seq (.reg [] [jv 3 (.load (.ag [.p]) (.t 1)),jv 4 (.load (.ag [.p]) (.t 1)),jv 5 (.fn 64 [.t 4] []),jx 6 (.call (jf 50) [.t 3,jn 0,.t 5]),jv 7 (.idx (.t 6) (jn 0) 1),jv 8 (.load .s (.t 7)),jm 2 8] []) .ret)
def A42:AC:=(.seq (.reg [.clr [1]] [jx 1 (.box (.t 0)),jv 2 (.mov (jn 0))] []) zrK)
def zuF:List An:=[⟨0,[.clr [1]],[],[],[]⟩]
theorem c42:cC Try.prog Try.f42.ntmps zuF (Try.f42.body.getD .skip)=some A42:=by kernel_rfl
structure H42 (D:Den) (σ:Sig) (F:Nat):Prop where
 c50s2:zk2 (D 50) F
 g50s2:σ 50=some (0,false)
abbrev R42 (r:Int):(Nat→V)→Prop:=RR Try.prog [.tmp 2] 0 false (Enc.enc (r:Int))
section
variable {D:Den} {σ:Sig} {F:Nat} {r:Int}
def xY (F:Nat) (x_1:(S1 LI)):Option Int:=
 (zX F x_1 0 (Cl.mk (x_1,()) ():(Cl 64 ((S1 LI)×Unit) Unit))).bind fun r_2=>
 (idx r_2 0).bind fun e_3=>
 some e_3
theorem t42 (H:H42 D σ F) (x_1:(S1 LI)) (s:Nat→V) (hs:zl [(0,.agg [eL x_1.a])] s) (h:xY F x_1=some r):Run D σ (R42 r) (.run A42 []) s:=by
 unfold xY at h
 have h0:=hs
 refine .seq (zq (zS ?_))
 refine ez [(0,_),(1,_)] ⟨za h0 rfl (zA (zd me zh)),zc rfl⟩ ?_
 rintro s ⟨h0,h1⟩
 refine xz (.agg [eL x_1.a]) (zw h0 rfl) h1 rfl (g0 (ji 0) fun h2=>gq (.nsq (.seq (rg (g1 1 (.agg [eL x_1.a]) (rf (.ref (.bx 1) 0 [] (.agg [eL x_1.a]))) fun h3=>g1 1 (.agg [eL x_1.a]) (rf (.ref (.bx 1) 0 [] (.agg [eL x_1.a]))) fun h4=>g1 4 (.fn 64 [.agg [eL x_1.a]] []) h4 fun h5=>?_)))))
 obtain ⟨r_2,E_r_2,h⟩:=bind_some h
 refine zF (m:=0) (al:=false) (r:=eL r_2) [Enc.enc (x_1:(S1 LI)),Enc.enc (0:Int),Arg.arg ((Cl.mk (x_1,()) ():(Cl 64 ((S1 LI)×Unit) Unit)):(Cl 64 ((S1 LI)×Unit) Unit))] (ze (v:=.agg [eL x_1.a]) h3 rfl (Enc.erase_enc (x_1:(S1 LI))) (ze (v:=ji 0) rfl rfl rfl (ze (v:=.fn 64 [.agg [eL x_1.a]] []) h5 rfl (Uj (xN (Enc.erase_enc (x_1:(S1 LI))) xf) xf) zx))) (H.c50s2 _ _ _ _ E_r_2) H.g50s2 rfl rfl rfl rfl ?_
 obtain ⟨e_3,E_e_3,h⟩:=bind_some h
 refine gv (.ref .sh 0 [] (ji e_3)) (yz (t:=.sh) (lo:=0) (xs:=r_2) rfl rfl E_e_3 rfl rfl) fun h7=>g1 7 (ji e_3) h7 fun h8=>gm h8 fun h2=>gq (.nsq (.ret ?_))
 have hr:=Option.some.inj h
 subst hr
 exact rrA (zn h2) rfl
end
def e42 (F:Nat):Ent:=ent 42 (fun (x:((S1 LI)×Unit))=>xY F x.1) (fun (r:Int)=>(Enc.enc (r:Int))) 0 false []
abbrev C42 (D:List V→Option V) (F:Nat):Prop:=∀ (x0:(S1 LI)) r,xY F x0=some r→D [Enc.enc x0]=some (Enc.enc (r:Int))
theorem p42 {F:Nat}:C42 (e42 F).den F:=fun x0 _ h=>zN (x0,()) h
theorem o42 {D:Den} {σ:Sig} {F:Nat} (hF:zy Try.prog D σ) (H:H42 D σ F):(e42 F).Ok Try.prog:=by
 refine yl (f:=42) (show unk 42=42 from rfl) (fun args r h=>?_) ⟨Try.f42,Try.func42,rfl,rfl⟩
 obtain ⟨⟨x0,_⟩,y,rfl,hy,rfl⟩:=zM h
 exact zm hF (by kernel_rfl) Try.func42 rfl c42 (show 1≤Try.f42.ntmps by decide) (t42 H x0 _ rfl hy)
def zov:AC:=(.cond (.t 6) (.seq (.reg [] [jv 2 (.mov (jn 0)),jv 3 (.mov kf)] []) .ret) .skip)
def zn4:AC:=(.seq (.reg [] [jv 7 (.load (.ag [.s,.p]) (.t 1)),jx 8 (.call (jf 20) [.t 7]),jx 9 (.call (jf 42) [.t 8]),jm 2 9,jv 3 (.mov kt)] []) .ret)
def zp5:AC:=(.seq (.seq (.reg [] [jv 4 (.load (.ag [.s,.p]) (.t 1)),jx 5 (.call (jf 19) [.t 4]),jv 6 (.un .not (.t 5))] []) zov) zn4)
def A16:AC:=(.seq (.reg [.clr [1]] [jx 1 (.box (.t 0)),jv 2 (.mov (jn 0)),jv 3 (.mov kf)] []) zp5)
def zuG:List An:=[⟨0,[.clr [1]],[],[],[]⟩]
theorem c16:cC Try.prog Try.f16.ntmps zuG (Try.f16.body.getD .skip)=some A16:=by kernel_rfl
structure H16 (D:Den) (σ:Sig) (F:Nat):Prop where
 c19:C19 (D 19) F
 g19:σ 19=some (0,false)
 c20:C20 (D 20) F
 g20:σ 20=some (0,false)
 c42:C42 (D 42) F
 g42:σ 42=some (0,false)
abbrev R16 (r:(Int×Bool)):(Nat→V)→Prop:=RR Try.prog [.tmp 2,.tmp 3] 0 false (.tup [Enc.enc (r.1:Int),Enc.enc (r.2:Bool)])
section
variable {D:Den} {σ:Sig} {F:Nat} {r:(Int×Bool)}
def vQ (F:Nat) (x_1:GR):Option (Int×Bool):=
 (wq F x_1).bind fun r_2=>
 bif (!r_2) then
  some (0,false)
 else
  (vS F x_1).bind fun r_3=>
  (xY F r_3).bind fun r_4=>
  some (r_4,true)
theorem t16 (H:H16 D σ F) (x_1:GR) (s:Nat→V) (hs:zl [(0,gV x_1)] s) (h:vQ F x_1=some r):Run D σ (R16 r) (.run A16 []) s:=by
 unfold vQ at h
 have h0:=hs
 refine .seq (zq (zS ?_))
 refine ez [(0,_),(1,_)] ⟨za h0 rfl mIE,zc rfl⟩ ?_
 rintro s ⟨h0,h1⟩
 refine xz (gV x_1) (zw h0 rfl) h1 rfl (g0 (ji 0) fun h2=>g0 (jb false) fun h3=>gq (.nsq (.seq (.seq (rg (g1 1 (gV x_1) (rf (bG 1 x_1)) fun h4=>?_))))))
 obtain ⟨r_2,E_r_2,h⟩:=bind_some h
 refine zF (m:=0) (al:=false) (r:=Enc.enc (r_2:Bool)) [Enc.enc (x_1:GR)] (ze (v:=gV x_1) h4 rfl (Enc.erase_enc (x_1:GR)) zx) (H.c19 _ _ E_r_2) H.g19 rfl rfl rfl rfl (g1 5 (jb (!r_2)) (rf (jb r_2)) fun h6=>gq (.nsq (zk (t:=(!r_2)) h6 h (fun h=>?_) (fun h=>?_))))
 · refine .seq (rg (g0 (ji 0) fun h2=>g0 (jb false) fun h3=>gq (.nsq (.ret ?_))))
   have hr:=Option.some.inj h
   subst hr
   exact rrB (zn h2) (zn h3) rfl
 refine .skip (.nsq (.seq (rg (g1 1 (gV x_1) (rf (bG 1 x_1)) fun h7=>?_))))
 obtain ⟨r_3,E_r_3,h⟩:=bind_some h
 refine zF (m:=0) (al:=false) (r:=Enc.enc (r_3:(S1 LI))) [Enc.enc (x_1:GR)] (ze (v:=gV x_1) h7 rfl (Enc.erase_enc (x_1:GR)) zx) (H.c20 _ _ E_r_3) H.g20 rfl rfl rfl rfl ?_
 obtain ⟨r_4,E_r_4,h⟩:=bind_some h
 refine zF (m:=0) (al:=false) (r:=Enc.enc (r_4:Int)) [Enc.enc (r_3:(S1 LI))] (ze (v:=.agg [eL r_3.a]) rfl rfl (Enc.erase_enc (r_3:(S1 LI))) zx) (H.c42 _ _ E_r_4) H.g42 rfl rfl rfl rfl (gm (rf (ji r_4)) fun h2=>g0 (jb true) fun h3=>gq (.nsq (.ret ?_)))
 have hr:=Option.some.inj h
 subst hr
 exact rrB (zn h2) (zn h3) rfl
end
def e16 (F:Nat):Ent:=ent 16 (fun (x:(GR×Unit))=>vQ F x.1) (fun (r:(Int×Bool))=>(.tup [Enc.enc (r.1:Int),Enc.enc (r.2:Bool)])) 0 false []
abbrev C16 (D:List V→Option V) (F:Nat):Prop:=∀ (x0:GR) r,vQ F x0=some r→D [Enc.enc x0]=some (.tup [Enc.enc (r.1:Int),Enc.enc (r.2:Bool)])
theorem p16 {F:Nat}:C16 (e16 F).den F:=fun x0 _ h=>zN (x0,()) h
theorem o16 {D:Den} {σ:Sig} {F:Nat} (hF:zy Try.prog D σ) (H:H16 D σ F):(e16 F).Ok Try.prog:=by
 refine yl (f:=16) (show unk 16=16 from rfl) (fun args r h=>?_) ⟨Try.f16,Try.func16,rfl,rfl⟩
 obtain ⟨⟨x0,_⟩,y,rfl,hy,rfl⟩:=zM h
 exact zm hF (by kernel_rfl) Try.func16 rfl c16 (show 1≤Try.f16.ntmps by decide) (t16 H x0 _ rfl hy)
def zrU:AC:=(.cond (.t 13) .skip (.exit 0))
def zos:AC:=(.reg [.clr [21,25,27,28,32]] [jy 21 (.lit i0 0 []),jm 22 5,jm 23 7,jv 24 (.slice (.t 22) none (some (.t 23)) 1),jy 25 (.appS .s (.t 21) (.t 24)),jm 26 6,jx 27 (.lit i0 1 [(0,0,.t 26)]),jy 28 (.appS .s (.t 25) (.t 27)),jm 29 5,jm 30 7,jv 31 (.slice (.t 29) (some (.t 30)) none 1),jx 32 (.appS .s (.t 28) (.t 31)),jm 5 32] [.home 32 5])
def zob:AC:=(.reg [] [jm 14 6,jv 15 (.bin .add (.t 14) (jn 1)),jm 6 15] [])
def zqB:AC:=(.seq (.block 1 (.seq (.reg [] [jm 16 0,jm 17 5,jv 18 (.len (.t 17)),jv 19 (.bin .add (.t 18) (jn 1)),jx 20 (.callT (jf 65) [.t 16,.t 19] [0] []),jm 7 20] []) zos)) zob)
def ziS:AC:=(.seq (.seq (.reg [] [jm 9 6,jv 10 (.fld (.t 3) 0 0),jv 11 (.load .s (.t 10)),jx 12 (.call (jf 36) [.t 11,jn 8]),jv 13 (.bin .lss (.t 9) (.t 12))] []) zrU) zqB)
def zqb:AC:=(.cond (.t 34) (.reg [.clr [37,39,40]] [jm 35 5,jm 36 0,jx 37 (.litS i0 3 [(0,0,jn 0),(1,1,jn (-1)),(2,2,jn 8)]),jx 38 (.callT (jf 67) [.t 36,.t 37] [0] []),jx 39 (.lit i0 1 [(0,0,.t 38)]),jx 40 (.app .s (.t 35) (.t 39)),jm 5 40] [.home 40 5]) .skip)
def zsZ:AC:=(.seq (.reg [] [jm 41 5,jm 4 41] [.home 5 4,.frz 4]) .ret)
def zkV:AC:=(.seq (.seq (.reg [] [jm 33 0,jx 34 (.callT (jf 66) [.t 33,jn 24] [0] [])] []) zqb) zsZ)
def zlZ:AC:=(.block 0 (.loop ziS))
def zl6:AC:=(.seq (.seq (.reg [] [jv 6 (.mov (jn 0))] []) zlZ) zkV)
def zoW:AC:=(.seq (.reg [.clr [8]] [jx 8 (.lit i0 0 []),jm 5 8] [.home 8 5]) zl6)
def A43:AC:=(.seq (.reg [.clr [3]] [jx 3 (.box (.t 1)),jv 4 (.mov (.k (.sl .nl .s 0 [])))] []) zoW)
def zuX:List An:=[⟨0,[.clr [3]],[],[],[]⟩,⟨1,[.clr [8]],[],[],[.home 8 5]⟩,⟨5,[],[],[5000000],[]⟩,⟨6,[.clr [21,25,27,28,32]],[0,4,7],[4,7,11],[.home 32 5]⟩,⟨7,[],[],[2000000],[]⟩,⟨8,[.clr [37,39,40]],[],[4000000,6002],[.home 40 5]⟩,⟨9,[],[],[],[.home 5 4,.frz 4]⟩]
theorem c43:cC Try.prog Try.f43.ntmps zuX (Try.f43.body.getD .skip)=some A43:=by kernel_rfl
structure H43 (D:Den) (σ:Sig) (F:Nat):Prop where
 c36:C36 (D 36) F
 g36:σ 36=some (0,false)
 c65:C65 (D 65) F
 g65:σ 65=some (Zk,false)
 c66:C66 (D 66) F
 g66:σ 66=some (Zk,false)
 c67:C67 (D 67) F
 g67:σ 67=some (Zk,false)
abbrev R43 (r:(LI×CU)):(Nat→V)→Prop:=RT Try.prog [.tmp 4] (eL r.1) [cuV zH r.2]
section
variable {D:Den} {σ:Sig} {F:Nat} {r:(LI×CU)}
def xL (F:Nat) (x_2:GR) :Nat→LB→Int→Int→LI→Int→Option (LI×CU)
 | 0,_,_,_,_,_=>none
 | k + 1,x_10,x_11,x_12,x_13,x_14=>
   (uT F x_2.1 8).bind fun r_22=>
   bif decide (x_14 < r_22) then
    (yA F (cu x_10 x_11 x_12) (w64 ((x_13.length:Int) + 1))).bind fun r_23=>
    (sub x_13 0 r_23.1).bind fun sub_24=>
    (wS [] sub_24).bind fun ap_25=>
    (wS ap_25 [x_14]).bind fun ap_26=>
    (sub x_13 r_23.1 (x_13.length:Int)).bind fun sub_27=>
    (wS ap_26 sub_27).bind fun ap_28=>
    (xL F x_2 k) r_23.2.a r_23.2.b r_23.2.c.v ap_28 (w64 (x_14 + 1))
   else
    (wJ F (cu x_10 x_11 x_12) 24).bind fun r_29=>
    bif r_29.1 then
     (xm F (Cu.mk r_29.2) [0,(-1),8]).bind fun r_30=>
     (wS x_13 [r_30.1]).bind fun ap_31=>
     some (ap_31,r_30.2)
    else
     some (x_13,r_29.2)
theorem zgq (H:H43 D σ F) (x_2:GR) :∀ (k:Nat) (x_10:LB) (x_11:Int) (x_12:Int) (x_13:LI) (x_14:Int) (s:Nat→V),zl [(0,.ref (.bx zH) 0 [] (.agg [eB x_10,ji x_11,.int .u64 x_12])),(3,bG 3 x_2),(4,nI),(5,oI 5 [] (.of x_13)),(6,ji x_14)] s→xL F x_2 k x_10 x_11 x_12 x_13 x_14=some r→Run D σ (R43 r) (.run ziS [.lp ziS,.bk 0,.sq zkV]) s:=by
 intro k
 induction k with
 | zero=>intro x_10 x_11 x_12 x_13 x_14 s _ h;exact nm h
 | succ k ih=>
   intro x_10 x_11 x_12 x_13 x_14 s hs h
   rw [xL] at h
   obtain ⟨h0,h3,h4,h5,h6⟩:=hs
   refine .seq (.seq (rg (gm h6 fun h9=>g1 3 (.ref (.bx 3) 0 [0] (ji x_2.1)) h3 fun h10=>g1 10 (ji x_2.1) h10 fun h11=>?_)))
   obtain ⟨r_22,E_r_22,h⟩:=bind_some h
   refine zF (m:=0) (al:=false) (r:=Enc.enc (r_22:Int)) [Enc.enc (x_2.1:Int),Enc.enc (8:Int)] (ze (v:=ji x_2.1) h11 rfl rfl (ze (v:=ji 8) rfl rfl rfl zx)) (H.c36 _ _ _ E_r_22) H.g36 rfl rfl rfl rfl (g2 9 12 (jb (decide (x_14 < r_22))) h9 (rf (ji r_22)) fun h13=>gq (.nsq (zk (t:=decide (x_14 < r_22)) h13 h (fun h=>?_) (fun h=>?_))))
   · refine .skip (.nsq (.seq (.block (.seq (rg (gm h0 fun h16=>gm h5 fun h17=>gv (ji (x_13.length:Int)) (YH (o:=.of x_13) h17) fun h18=>g1 18 (ji (w64 ((x_13.length:Int) + 1))) h18 fun h19=>?_))))))
     obtain ⟨r_23,E_r_23,h⟩:=bind_some h
     refine uz (r:=zH) (b:=0) (x:=((S3.mk x_10 x_11 (Kd.mk x_12:Kd .u64)):CU)) (x':=r_23.2) (vs:=[Enc.enc (w64 ((x_13.length:Int) + 1):Int)]) (res:=Enc.enc (r_23.1:Int)) h0 (by exact (zQ (v:=cuV zH ((S3.mk x_10 x_11 (Kd.mk x_12:Kd .u64)):CU)) h16 rfl (zQ (v:=Enc.enc (w64 ((x_13.length:Int) + 1):Int)) h19 rfl yR))) (yk te yH) fm1 (H.c65 _ _ _ E_r_23) H.g65 te rfl (fun s_10 hb_10 ha_10=>gm (rf (ji r_23.1)) fun h7=>?_)
     refine gz [(0,_),(3,bG 3 x_2),(4,nI),(5,oI 5 [] (.of x_13)),(6,ji x_14),(7,_)] ⟨(show s_10 0=(bC r_23.2) from hb_10 0 h0),(show s_10 3=(bG 3 x_2) from ha_10 3 _ _ h3 rfl (zf rfl mIE)),(show s_10 4=nI from ha_10 4 _ _ h4 rfl rfl),(show s_10 5=(oI 5 [] (.of x_13)) from ha_10 5 _ _ h5 rfl (zj (r:=5) (p:=[]) rfl rfl)),(show s_10 6=(ji x_14) from ha_10 6 _ _ h6 rfl mi),h7⟩ ?_
     rintro s ⟨h0,h3,h4,h5,h6,h7⟩
     refine .nsq (zq (zS ?_))
     refine ez [(0,_),(3,_),(4,_),(5,_),(6,_),(7,_),(21,_),(25,_),(27,_),(28,_),(32,_)] ⟨za h0 rfl (zf rfl uH),za h3 rfl (zf rfl mIE),za h4 rfl rfl,za h5 rfl (zj (r:=5) (p:=[]) rfl rfl),za h6 rfl mi,za h7 rfl mi,zc rfl,zc rfl,zc rfl,zc rfl,zc rfl⟩ ?_
     rintro s ⟨h0,h3,h4,h5,h6,h7,h21,h25,h27,h28,h32⟩
     refine zas [] [] trivial rfl rfl h21 (gm h5 fun h22=>gm h7 fun h23=>?_)
     obtain ⟨sub_24,E_sub_24,h⟩:=bind_some h
     refine gv (.sl (.at 5 []) (Enc.shp Int) (Int.toNat 0) ((sub_24:LI).map Enc.enc)) (US (xs:=x_13) h22 (Xt) (Xx h23) E_sub_24 rfl) fun h24=>?_
     obtain ⟨ap_25,E_ap_25,h⟩:=bind_some h
     refine WY (p:=[]) (xs:=[]) (ys:=(sub_24:LI)) (t2:=.at 5 []) (lo2:=Int.toNat 0) rfl h24 rfl h25 rfl E_ap_25 (gm h6 fun h26=>xT [(26,ji x_14)] [Enc.enc (x_14:Int)] h26 rfl rfl h27 ?_)
     obtain ⟨ap_26,E_ap_26,h⟩:=bind_some h
     refine WY (p:=[]) (xs:=ap_25) (ys:=([x_14]:LI)) (t2:=.at 27 []) (lo2:=0) rfl rfl rfl h28 rfl E_ap_26 (gm h5 fun h29=>gm h7 fun h30=>?_)
     obtain ⟨sub_27,E_sub_27,h⟩:=bind_some h
     refine gv (.sl (.at 5 []) (Enc.shp Int) (Int.toNat r_23.1) ((sub_27:LI).map Enc.enc)) (US (xs:=x_13) h29 (Xx h30) (Xt) E_sub_27 rfl) fun h31=>?_
     obtain ⟨ap_28,E_ap_28,h⟩:=bind_some h
     refine WY (p:=[]) (xs:=ap_26) (ys:=(sub_27:LI)) (t2:=.at 5 []) (lo2:=Int.toNat r_23.1) rfl h31 rfl h32 rfl E_ap_28 (gm (rf (oI 32 [] (.of ap_28))) fun h5=>yQ (yC (r:=32) (x:=5) (v:=_) h5 rfl (fun s_12 hg_12=>?_)))
     refine ez [(0,bC r_23.2),(3,bG 3 x_2),(4,nI),(5,oI 5 [] (.of ap_28)),(6,ji x_14)] ⟨hg_12 0 _ _ h0 (zf rfl uH),hg_12 3 _ _ h3 (zf rfl mIE),hg_12 4 _ _ h4 rfl,hg_12 5 _ _ h5 (zj (r:=32) (p:=[]) rfl rfl),hg_12 6 _ _ h6 mi⟩ ?_
     rintro s ⟨h0,h3,h4,h5,h6⟩
     refine .nbk (.nsq (rg (gm h6 fun h14=>g1 14 (ji (w64 (x_14 + 1))) h14 fun h15=>gm h15 fun h6=>gq (.nlp ?_))))
     exact ih r_23.2.a r_23.2.b r_23.2.c.v ap_28 (w64 (x_14 + 1)) _ ⟨h0,h3,h4,h5,h6⟩ h
   refine .exit (.esq (.elp (.ebk (.nsq (.seq (.seq (rg (gm h0 fun h33=>?_))))))))
   obtain ⟨r_29,E_r_29,h⟩:=bind_some h
   refine uz (r:=zH) (b:=0) (x:=((S3.mk x_10 x_11 (Kd.mk x_12:Kd .u64)):CU)) (x':=r_29.2) (vs:=[Enc.enc (24:Int)]) (res:=Enc.enc (r_29.1:Bool)) h0 (by exact (zQ (v:=cuV zH ((S3.mk x_10 x_11 (Kd.mk x_12:Kd .u64)):CU)) h33 rfl (zQ (v:=Enc.enc (24:Int)) rfl rfl yR))) (yk te yH) fm1 (H.c66 _ _ _ E_r_29) H.g66 te rfl (fun s_13 hb_13 ha_13=>gz [(0,_),(4,nI),(5,oI 5 [] (.of x_13)),(34,jb r_29.1)] ⟨(show s_13 0=(bC r_29.2) from hb_13 0 h0),(show s_13 4=nI from ha_13 4 _ _ h4 rfl rfl),(show s_13 5=(oI 5 [] (.of x_13)) from ha_13 5 _ _ h5 rfl (zj (r:=5) (p:=[]) rfl rfl)),rfl⟩ ?_)
   rintro s ⟨h0,h4,h5,h34⟩
   refine .nsq (zk (t:=r_29.1) h34 h (fun h=>?_) (fun h=>?_))
   · refine zq (zS ?_)
     refine ez [(0,_),(4,_),(5,_),(37,_),(39,_),(40,_)] ⟨za h0 rfl (zf rfl uH),za h4 rfl rfl,za h5 rfl (zj (r:=5) (p:=[]) rfl rfl),zc rfl,zc rfl,zc rfl⟩ ?_
     rintro s ⟨h0,h4,h5,h37,h39,h40⟩
     refine gm h5 fun h35=>gm h0 fun h36=>zaM [] ([0,(-1),8]:LI) trivial rfl rfl rfl h37 (fun s_15 hd_15 hl_15=>?_)
     obtain ⟨r_30,E_r_30,h⟩:=bind_some h
     refine uz (r:=zH) (b:=0) (x:=r_29.2) (x':=r_30.2) (vs:=[Enc.enc ([0,(-1),8]:LI)]) (res:=Enc.enc (r_30.1:Int)) (show s_15 0=(bC r_29.2) from hl_15 0 _ _ (by decide) h0 (ye rfl X8 rfl)) (by exact (zQ (v:=cuV zH r_29.2) (show s_15 36=(bC r_29.2) from hl_15 36 _ _ (by decide) h36 (ye rfl X8 rfl)) rfl (zQ (v:=Enc.enc ([0,(-1),8]:LI)) (show s_15 37=(eL [0,(-1),8]) from hd_15) rfl yR))) (yk te yH) fm1 (H.c67 _ _ _ E_r_30) H.g67 te rfl (fun s_16 hb_16 ha_16=>?_)
     refine xT [(38,ji r_30.1)] [Enc.enc (r_30.1:Int)] rfl rfl rfl (show s_16 39 = .gone from ha_16 39 .gone _ (show s_15 39 = .gone from hl_15 39 _ _ (by decide) h39 rfl) rfl rfl) ?_
     obtain ⟨ap_31,E_ap_31,h⟩:=bind_some h
     refine Xz (q:=5) (p:=[]) (o:=.of (x_13:LI)) (ys:=([r_30.1]:LI)) (t2:=.at 39 []) (lo2:=0) (show s_16 35=(oI 5 [] (.of x_13)) from ha_16 35 (oI 5 [] (.of x_13)) _ (show s_15 35=(oI 5 [] (.of x_13)) from hl_15 35 _ _ (by decide) h35 (WX rfl rfl)) rfl (zj (r:=5) (p:=[]) rfl rfl)) rfl rfl (show s_16 40 = .gone from ha_16 40 .gone _ (show s_15 40 = .gone from hl_15 40 _ _ (by decide) h40 rfl) rfl rfl) (ZJ (o:=.of (x_13:LI)) E_ap_31 trivial) (fun s_17 ha_17=>gm (rf (oI 40 [] (.of ap_31))) fun h5=>yQ (yC (r:=40) (x:=5) (v:=_) h5 rfl (fun s_18 hg_18=>?_)))
     refine ez [(0,bC r_30.2),(4,nI),(5,oI 5 [] (.of ap_31))] ⟨hg_18 0 _ _ (show s_17 0=(bC r_30.2) from zJ ha_17 (show s_16 0=(bC r_30.2) from hb_16 0 (show s_15 0=(bC r_29.2) from hl_15 0 _ _ (by decide) h0 (ye rfl X8 rfl))) (zf rfl uH)) (zf rfl uH),hg_18 4 _ nI (show s_17 4=nI from zJ ha_17 (show s_16 4=nI from ha_16 4 nI _ (show s_15 4=nI from hl_15 4 _ _ (by decide) h4 rfl) rfl rfl) rfl) rfl,hg_18 5 _ _ h5 (zj (r:=40) (p:=[]) rfl rfl)⟩ ?_
     rintro s ⟨h0,h4,h5⟩
     refine .nsq (.seq (rg (gm h5 fun h41=>gm h41 fun h4=>yQ (yC (r:=5) (x:=4) (v:=_) h4 rfl (fun s_19 hg_19=>K1 (x:=4) (v:=oI 4 [] (.of ap_31)) [.at 4 []] (by exact (hg_19 4 _ _ h4 (zj (r:=5) (p:=[]) rfl rfl))) yw (fun s_20 hg_20=>?_))))))
     refine ez [(0,bC r_30.2),(4,eL ap_31)] ⟨hg_20 0 (bC r_30.2) (bC r_30.2) (hg_19 0 _ _ h0 (zf rfl uH)) (ye rfl X8 rfl),hg_20 4 (oI 4 [] (.of ap_31)) (eL ap_31) (hg_19 4 _ _ h4 (zj (r:=5) (p:=[]) rfl rfl)) Xb⟩ ?_
     rintro s ⟨h0,h4⟩
     refine .nsq (.ret ?_)
     have hr:=Option.some.inj h
     subst hr
     exact rt1 (t:=0) (zn h4) h0
   refine .skip (.nsq (.seq (rg (gm h5 fun h41=>gm h41 fun h4=>yQ (yC (r:=5) (x:=4) (v:=_) h4 rfl (fun s_21 hg_21=>K1 (x:=4) (v:=oI 4 [] (.of x_13)) [.at 4 []] (by exact (hg_21 4 _ _ h4 (zj (r:=5) (p:=[]) rfl rfl))) yw (fun s_22 hg_22=>?_)))))))
   refine ez [(0,bC r_29.2),(4,eL x_13)] ⟨hg_22 0 (bC r_29.2) (bC r_29.2) (hg_21 0 _ _ h0 (zf rfl uH)) (ye rfl X8 rfl),hg_22 4 (oI 4 [] (.of x_13)) (eL x_13) (hg_21 4 _ _ h4 (zj (r:=5) (p:=[]) rfl rfl)) Xb⟩ ?_
   rintro s ⟨h0,h4⟩
   refine .nsq (.ret ?_)
   have hr:=Option.some.inj h
   subst hr
   exact rt1 (t:=0) (zn h4) h0
def vW (F:Nat) (x_1:CC) (x_2:GR):Option (LI×CU):=
 xL F x_2 F x_1.v.a x_1.v.b x_1.v.c.v [] 0
theorem t43 (H:H43 D σ F) (x_1:CC) (x_2:GR) (s:Nat→V) (hs:zl [(0,bC x_1.v),(1,gV x_2)] s) (h:vW F x_1 x_2=some r):Run D σ (R43 r) (.run A43 []) s:=by
 unfold vW at h
 obtain ⟨h0,h1⟩:=hs
 refine .seq (zq (zS ?_))
 refine ez [(0,_),(1,_),(3,_)] ⟨za h0 rfl (zf rfl uH),za h1 rfl mIE,zc rfl⟩ ?_
 rintro s ⟨h0,h1,h3⟩
 refine xz (gV x_2) (zw h1 rfl) h3 rfl (g0 nI fun h4=>gq (.nsq (.seq (zq (zS ?_)))))
 refine ez [(0,_),(3,_),(4,_),(8,_)] ⟨za h0 rfl (zf rfl uH),za rfl rfl (zf rfl mIE),za h4 rfl rfl,zc rfl⟩ ?_
 rintro s ⟨h0,h3,h4,h8⟩
 refine xT [] [] trivial rfl rfl h8 (gm (rf (oI 8 [] (.of []))) fun h5=>yQ (yC (r:=8) (x:=5) (v:=_) h5 rfl (fun s_3 hg_3=>?_)))
 refine ez [(0,bC x_1.v),(3,bG 3 x_2),(4,nI),(5,oI 5 [] (.of []))] ⟨hg_3 0 _ _ h0 (zf rfl uH),hg_3 3 _ _ h3 (zf rfl mIE),hg_3 4 _ _ h4 rfl,hg_3 5 _ _ h5 (zj (r:=8) (p:=[]) rfl rfl)⟩ ?_
 rintro s ⟨h0,h3,h4,h5⟩
 refine .nsq (.seq (.seq (rg (g0 (ji 0) fun h6=>gq (.nsq (.block (.loop ?_)))))))
 exact zgq H x_2 F x_1.v.a x_1.v.b x_1.v.c.v [] 0 _ ⟨h0,h3,h4,h5,h6⟩ h
end
def e43 (F:Nat):Ent:=ent 43 (fun (x:(CC×GR×Unit))=>vW F x.1 x.2.1) (fun (r:(LI×CU))=>(.tup [eL r.1,.tup [cuV zH r.2]])) Zk false []
abbrev C43 (D:List V→Option V) (F:Nat):Prop:=∀ (x0:CC) (x1:GR) r,vW F x0 x1=some r→D [Arg.arg x0,Enc.enc x1]=some (.tup [eL r.1,.tup [cuV zH r.2]])
theorem p43 {F:Nat}:C43 (e43 F).den F:=fun x0 x1 _ h=>zN (x0,x1,()) h
theorem o43 {D:Den} {σ:Sig} {F:Nat} (hF:zy Try.prog D σ) (H:H43 D σ F):(e43 F).Ok Try.prog:=by
 refine yl (f:=43) (show unk 43=43 from rfl) (fun args r h=>?_) ⟨Try.f43,Try.func43,rfl,rfl⟩
 obtain ⟨⟨x0,x1,_⟩,y,rfl,hy,rfl⟩:=zM h
 exact wV hF (by kernel_rfl) Try.func43 rfl c43 rfl (show 2≤Try.f43.ntmps by decide) (by decide) (t43 H x0 x1 _ ⟨rfl,rfl⟩ hy)
def zpd:AC:=(.seq (.reg [] [jx 11 (.vN (.load (.ag [.s,.p]) (.t 5)) [4]),jm 12 4,jx 13 (.vN (.load (.ag [.s,.p]) (.t 5)) [4]),jx 14 (.callT (jf 43) [.t 12,.t 13] [4] []),jz (.store (.ag [.s,.p]) (.t 2) (.t 11)),jm 3 14] []) .ret)
def zss:AC:=(.seq (.reg [.clr [5]] [jm 9 4,jx 10 (.callT (jf 18) [.t 9] [4] []),jx 5 (.alloc (.agg [i0,.sl .nl (.ag [.s,.s]) 0 []])),jz (.store (.ag [.s,.p]) (.t 5) (.t 10))] []) zpd)
def zqS:AC:=(.seq (.reg [.clr [8]] [jm 6 0,jv 7 (.bld (.agg [.sl .nl .s 0 [],i0,.int .u64 (.ofNat 0)]) [(0,0,.t 6)]),jx 8 (.box (.t 7)),jm 4 8] []) zss)
def A17:AC:=(.seq (.reg [.clr [2]] [jx 2 (.alloc (.agg [i0,.sl .nl (.ag [.s,.s]) 0 []])),jv 3 (.mov (.k (.sl .nl .s 0 [])))] []) zqS)
def zuP:List An:=[⟨0,[.clr [2]],[],[],[]⟩,⟨1,[.clr [8]],[],[],[]⟩,⟨2,[.clr [5]],[],[2000004],[]⟩,⟨3,[],[],[4000004,1000004,3000004],[]⟩]
theorem c17:cC Try.prog Try.f17.ntmps zuP (Try.f17.body.getD .skip)=some A17:=by kernel_rfl
structure H17 (D:Den) (σ:Sig) (F:Nat):Prop where
 c18:C18 (D 18) F
 g18:σ 18=some (Zk,false)
 c43:C43 (D 43) F
 g43:σ 43=some (Zk,false)
abbrev R17 (r:(GR×LI)):(Nat→V)→Prop:=RR Try.prog [.cell 2 26,.tmp 3] 0 true (.tup [Enc.enc (r.1:GR),eL r.2])
section
variable {D:Den} {σ:Sig} {F:Nat} {r:(GR×LI)}
def wL (F:Nat) (x_1:LB):Option (GR×LI):=
 (wW F (cu x_1 0 0)).bind fun r_2=>
 (vW F (Cu.mk r_2.2) r_2.1).bind fun r_3=>
 some (r_2.1,r_3.1)
theorem t17 (H:H17 D σ F) (x_1:LB) (s:Nat→V) (hs:zl [(0,eB x_1)] s) (h:wL F x_1=some r):Run D σ (R17 r) (.run A17 []) s:=by
 unfold wL at h
 have h0:=hs
 refine .seq (zq (zS ?_))
 refine ez [(0,_),(2,_)] ⟨za h0 rfl me,zc rfl⟩ ?_
 rintro s ⟨h0,h2⟩
 refine xk h2 (g0 nI fun h3=>gq (.nsq (.seq (zq (zS ?_)))))
 refine ez [(0,_),(2,_),(3,_),(8,_)] ⟨za h0 rfl me,za rfl rfl (zf rfl (mIx rfl)),za h3 rfl rfl,zc rfl⟩ ?_
 rintro s ⟨h0,h2,h3,h8⟩
 refine gm h0 fun h6=>g1 6 (.agg [eB x_1,ji 0,.int .u64 0]) h6 fun h7=>xz (.agg [eB x_1,ji 0,.int .u64 0]) (zw h7 rfl) h8 rfl (gm (rf (.ref (.bx 8) 0 [] (.agg [eB x_1,ji 0,.int .u64 0]))) fun h4=>gq (.nsq (.seq (zq (zS ?_)))))
 refine ez [(2,_),(3,_),(4,_),(5,_)] ⟨za h2 rfl (zf rfl (mIx rfl)),za h3 rfl rfl,za h4 rfl (zf rfl uH),zc rfl⟩ ?_
 rintro s ⟨h2,h3,h4,h5⟩
 refine gm h4 fun h9=>?_
 obtain ⟨r_2,E_r_2,h⟩:=bind_some h
 refine uz (r:=8) (b:=4) (x:=((S3.mk x_1 0 (Kd.mk 0:Kd .u64)):CU)) (x':=r_2.2) (vs:=[]) (res:=Enc.enc (r_2.1:GR)) h4 (by exact (zQ (v:=cuV 8 ((S3.mk x_1 0 (Kd.mk 0:Kd .u64)):CU)) h9 rfl yR)) yH (fun f=>zh) (H.c18 _ _ E_r_2) H.g18 te rfl (fun s_4 hb_4 ha_4=>xk (show s_4 5 = .gone from ha_4 5 _ _ h5 rfl rfl) (yb (gV r_2.1) (zw rfl rfl) (zw rfl rfl) (wj (by first | rfl | simp [V.toks,V.tokss,Enc.toks_enc,ya])) ?_))
 refine gz [(2,bZ 2),(3,nI),(4,.ref (.bx 8) 0 [] (cV r_2.2)),(5,bG 5 r_2.1)] ⟨zb (show s_4 2=(bZ 2) from ha_4 2 _ _ h2 rfl (zf rfl (mIx rfl))) (zC rfl rfl (yr (zp rfl (zp rfl rfl)))),zb (show s_4 3=nI from ha_4 3 _ _ h3 rfl rfl) rfl,zb (show s_4 4=(.ref (.bx 8) 0 [] (cV r_2.2)) from hb_4 4 h4) (zC rfl rfl Uu),zb rfl rfl⟩ ?_
 rintro s ⟨h2,h3,h4,h5⟩
 refine .nsq (.seq (rg (MJ (r:=8) (b:=4) (x:=r_2.2) (gV r_2.1) h4 (YI [(5,bG 5 r_2.1)] h5 rfl rfl) [(5,bG 5 r_2.1)] h5 rfl (by simp [V.toks,V.tokss,yw,Enc.toks_enc,zH,uB]) (by simp [V.toks,V.tokss,yw,Enc.toks_enc,zH,uB]) (gm h4 fun h12=>MJ (r:=8) (b:=4) (x:=r_2.2) (gV r_2.1) h4 (YI [(5,bG 5 r_2.1)] h5 rfl rfl) [(5,bG 5 r_2.1)] h5 rfl (by simp [V.toks,V.tokss,yw,Enc.toks_enc,zH,uB]) (by simp [V.toks,V.tokss,yw,Enc.toks_enc,zH,uB]) ?_))))
 obtain ⟨r_3,E_r_3,h⟩:=bind_some h
 refine uz (r:=8) (b:=4) (x:=r_2.2) (x':=r_3.2) (vs:=[Enc.enc (r_2.1:GR)]) (res:=eL r_3.1) h4 (by exact (zQ (v:=cuV 8 r_2.2) h12 rfl (zQ (v:=Enc.enc (r_2.1:GR)) rfl rfl yR))) (yk te yH) fm1 (H.c43 _ _ _ E_r_3) H.g43 te rfl (fun s_5 hb_5 ha_5=>yb (gV r_2.1) (zw (show s_5 2=(bZ 2) from ha_5 2 _ _ h2 rfl (zf rfl (mIx rfl))) rfl) (zw (show s_5 11=(gV r_2.1) from ha_5 11 (gV r_2.1) _ rfl rfl mIE) rfl) (wj (by first | rfl | simp [V.toks,V.tokss,Enc.toks_enc,ya])) (gm (zb rfl uE) fun h3=>?_))
 refine gz [(2,bG 2 r_2.1),(3,_)] ⟨zb (show s_5 2=(bZ 2) from ha_5 2 _ _ h2 rfl (zf rfl (mIx rfl))) rfl,h3⟩ ?_
 rintro s ⟨h2,h3⟩
 refine .nsq (.ret ?_)
 have hr:=Option.some.inj h
 subst hr
 exact rrB (wN h2 (by kernel_rfl)) (zn h3) (Yo (Xd (xe (vD (x:=(r_2.1:GR))) (xe (vD (x:=(r_3.1:LI))) uj))))
end
def e17 (F:Nat):Ent:=ent 17 (fun (x:(LB×Unit))=>wL F x.1) (fun (r:(GR×LI))=>(.tup [Enc.enc (r.1:GR),eL r.2])) 0 true []
abbrev C17 (D:List V→Option V) (F:Nat):Prop:=∀ (x0:LB) r,wL F x0=some r→D [Enc.enc x0]=some (.tup [Enc.enc (r.1:GR),eL r.2])
theorem p17 {F:Nat}:C17 (e17 F).den F:=fun x0 _ h=>zN (x0,()) h
theorem o17 {D:Den} {σ:Sig} {F:Nat} (hF:zy Try.prog D σ) (H:H17 D σ F):(e17 F).Ok Try.prog:=by
 refine yl (f:=17) (show unk 17=17 from rfl) (fun args r h=>?_) ⟨Try.f17,Try.func17,rfl,rfl⟩
 obtain ⟨⟨x0,_⟩,y,rfl,hy,rfl⟩:=zM h
 exact zm hF (by kernel_rfl) Try.func17 rfl c17 (show 1≤Try.f17.ntmps by decide) (t17 H x0 _ rfl hy)
def zol:AC:=(.cond (.t 167) (.seq (.reg [] [jv 2 (.mov kf)] []) .ret) .skip)
def zpK:AC:=(.seq (.reg [] [jm 168 23,jv 169 (.un .not (.t 168)),jm 170 169,jg 171 170 false (.fld (.t 3) 0 0),jg 172 170 false (.load .s (.t 171)),jg 173 170 false (.bin .eql (.t 172) (jn 0)),jv 174 (.pick (.t 170) kt (.t 173)),jm 175 174,jg 176 175 false (.mov (.t 4)),jg 177 175 false (.mov (.t 22)),jg 178 175 false (.bin .leq (.t 176) (.t 177)),jv 179 (.pick (.t 175) kt (.t 178)),jm 2 179] []) .ret)
def zql:AC:=(.cond (.t 111) (.seq (.reg [] [jv 2 (.mov kf)] []) .ret) .skip)
def zus:AC:=(.cond (.t 113) (.seq (.reg [] [jv 2 (.mov kt)] []) .ret) .skip)
def zpo:AC:=(.seq (.seq (.reg [] [jm 136 21,jv 137 (.un .not (.t 136)),jm 138 137,jg 139 138 false (.mov (.t 20)),jg 140 138 false (.mov (.t 4)),jg 141 138 false (.bin .neq (.t 139) (.t 140)),jv 142 (.pick (.t 138) kt (.t 141)),jm 143 142,jg 144 143 false (.mov (.t 27)),jg 145 143 false (.mov (.t 144)),jg 146 145 true (.mov (.t 26)),jg 147 145 true (.mov (.t 4)),jg 148 145 true (.bin .lss (.t 146) (.t 147)),jg 149 143 false (.pick (.t 145) (.t 148) kf),jv 150 (.pick (.t 143) kt (.t 149)),jm 151 150,jg 152 151 false (.mov (.t 16)),jg 153 151 false (.mov (.t 4)),jg 154 151 false (.bin .gtr (.t 152) (.t 153)),jv 155 (.pick (.t 151) kt (.t 154)),jm 156 155,jg 157 156 false (.mov (.t 12)),jg 158 156 false (.len (.t 157)),jg 159 156 false (.bin .sub (.t 158) (jn 1)),jg 160 156 false (.mov (.t 16)),jg 161 156 false (.bin .gtr (.t 159) (.t 160)),jg 162 156 false (.mov (.t 161)),jg 163 162 true (.fld (.t 3) 0 0),jg 164 162 true (.load .s (.t 163)),jg 165 162 true (.bin .gtr (.t 164) (jn 0)),jg 166 156 false (.pick (.t 162) (.t 165) kf),jv 167 (.pick (.t 156) kt (.t 166))] []) zol) zpK)
def zto:AC:=(.seq (.reg [] [jv 131 (.load (.ag [.s,.p]) (.t 3)),jm 132 25,jx 133 (.call (jf 15) [.t 131,.t 132]),jm 130 133,jv 134 (.extS (.t 130) 0),jv 135 (.extS (.t 130) 1),jm 26 134,jm 27 135] []) zpo)
def zul:AC:=(.seq (.reg [.clr [24]] [jm 126 0,jx 127 (.call (jf 17) [.t 126]),jm 125 127,jv 128 (.ext (.t 125) 0),jv 129 (.ext (.t 125) 1),jx 24 (.alloc (.agg [i0,.sl .nl (.ag [.s,.s]) 0 []])),jz (.store (.ag [.s,.p]) (.t 24) (.t 128)),jm 25 129] []) zto)
def zuT:AC:=(.seq (.reg [] [jv 121 (.load (.ag [.s,.p]) (.t 3)),jx 122 (.call (jf 16) [.t 121]),jm 120 122,jv 123 (.extS (.t 120) 0),jv 124 (.extS (.t 120) 1),jm 22 123,jm 23 124] []) zul)
def zuS:AC:=(.seq (.reg [] [jv 115 (.load (.ag [.s,.p]) (.t 3)),jm 116 8,jx 117 (.call (jf 15) [.t 115,.t 116]),jm 114 117,jv 118 (.extS (.t 114) 0),jv 119 (.extS (.t 114) 1),jm 20 118,jm 21 119] []) zuT)
def zoy:AC:=(.seq (.seq (.reg [] [jm 112 5,jv 113 (.un .not (.t 112))] []) zus) zuS)
def zqK:AC:=(.cond (.t 29) (.seq (.reg [] [jv 2 (.mov kt)] []) .ret) .skip)
def zog:AC:=(.seq (.seq (.reg [] [jm 72 4,jm 73 6,jv 74 (.bin .neq (.t 72) (.t 73)),jm 75 74,jg 76 75 false (.mov (.t 5)),jg 77 75 false (.mov (.t 7)),jg 78 75 false (.beq true (.t 76) (.t 77)),jv 79 (.pick (.t 75) kt (.t 78)),jm 80 79,jg 81 80 false (.mov (.t 9)),jg 82 80 false (.mov (.t 11)),jg 83 80 false (.beq true (.t 81) (.t 82)),jv 84 (.pick (.t 80) kt (.t 83)),jm 85 84,jg 86 85 false (.mov (.t 8)),jg 87 85 false (.mov (.t 10)),.mk (some 88) (some (85,false)) false (.call (jf 14) [.t 86,.t 87]),jg 89 85 false (.un .not (.t 88)),jv 90 (.pick (.t 85) kt (.t 89)),jm 91 90,jg 92 91 false (.mov (.t 13)),jg 93 91 false (.mov (.t 15)),jg 94 91 false (.beq true (.t 92) (.t 93)),jv 95 (.pick (.t 91) kt (.t 94)),jm 96 95,jg 97 96 false (.mov (.t 12)),jg 98 96 false (.mov (.t 14)),.mk (some 99) (some (96,false)) false (.call (jf 14) [.t 97,.t 98]),jg 100 96 false (.un .not (.t 99)),jv 101 (.pick (.t 96) kt (.t 100)),jm 102 101,jg 103 102 false (.mov (.t 16)),jg 104 102 false (.mov (.t 18)),jg 105 102 false (.bin .neq (.t 103) (.t 104)),jv 106 (.pick (.t 102) kt (.t 105)),jm 107 106,jg 108 107 false (.mov (.t 17)),jg 109 107 false (.mov (.t 19)),jg 110 107 false (.beq true (.t 108) (.t 109)),jv 111 (.pick (.t 107) kt (.t 110))] []) zql) zoy)
def zoG:AC:=(.seq (.reg [] [jv 68 (.load (.ag [.s,.p]) (.t 3)),jx 69 (.call (jf 13) [.t 68]),jm 67 69,jv 70 (.extS (.t 67) 0),jv 71 (.extS (.t 67) 1),jm 18 70,jm 19 71] []) zog)
def zo6:AC:=(.seq (.reg [] [jv 63 (.load (.ag [.s,.p]) (.t 3)),jx 64 (.call (jf 12) [.t 63]),jm 62 64,jv 65 (.extS (.t 62) 0),jv 66 (.extS (.t 62) 1),jm 16 65,jm 17 66] []) zoG)
def zpx:AC:=(.seq (.reg [] [jv 58 (.load (.ag [.s,.p]) (.t 3)),jx 59 (.call (jf 11) [.t 58]),jm 57 59,jv 60 (.ext (.t 57) 0),jv 61 (.extS (.t 57) 1),jm 14 60,jm 15 61] []) zo6)
def zrt:AC:=(.seq (.reg [] [jv 53 (.load (.ag [.s,.p]) (.t 3)),jx 54 (.call (jf 10) [.t 53]),jm 52 54,jv 55 (.ext (.t 52) 0),jv 56 (.extS (.t 52) 1),jm 12 55,jm 13 56] []) zpx)
def zq7:AC:=(.seq (.reg [] [jv 48 (.load (.ag [.s,.p]) (.t 3)),jx 49 (.call (jf 9) [.t 48]),jm 47 49,jv 50 (.ext (.t 47) 0),jv 51 (.extS (.t 47) 1),jm 10 50,jm 11 51] []) zrt)
def zsJ:AC:=(.seq (.reg [] [jv 43 (.load (.ag [.s,.p]) (.t 3)),jx 44 (.call (jf 8) [.t 43]),jm 42 44,jv 45 (.ext (.t 42) 0),jv 46 (.extS (.t 42) 1),jm 8 45,jm 9 46] []) zq7)
def zp3:AC:=(.seq (.reg [] [jv 38 (.load (.ag [.s,.p]) (.t 3)),jx 39 (.call (jf 7) [.t 38]),jm 37 39,jv 40 (.extS (.t 37) 0),jv 41 (.extS (.t 37) 1),jm 6 40,jm 7 41] []) zsJ)
def zqV:AC:=(.seq (.reg [] [jv 33 (.load (.ag [.s,.p]) (.t 3)),jx 34 (.call (jf 6) [.t 33]),jm 32 34,jv 35 (.extS (.t 32) 0),jv 36 (.extS (.t 32) 1),jm 4 35,jm 5 36] []) zp3)
def zqI:AC:=(.seq (.reg [.clr [3]] [jm 30 0,jx 31 (.call (jf 5) [.t 30]),jx 3 (.alloc (.agg [i0,.sl .nl (.ag [.s,.s]) 0 []])),jz (.store (.ag [.s,.p]) (.t 3) (.t 31))] []) zqV)
def zsf:AC:=(.seq (.seq (.reg [] [jm 28 0,jx 29 (.call (jf 4) [.t 28])] []) zqK) zqI)
def A3:AC:=(.seq (.reg [] [jv 2 (.mov kf)] []) zsf)
def an3:List An:=[⟨3,[.clr [3]],[],[],[]⟩,⟨18,[.clr [24]],[],[],[]⟩]
theorem c3:cC Try.prog Try.f3.ntmps an3 (Try.f3.body.getD .skip)=some A3:=by kernel_rfl
structure H3 (D:Den) (σ:Sig) (F:Nat):Prop where
 c4:C4 (D 4) F
 g4:σ 4=some (0,false)
 c5:C5 (D 5) F
 g5:σ 5=some (0,true)
 c6:C6 (D 6) F
 g6:σ 6=some (0,false)
 c7:C7 (D 7) F
 g7:σ 7=some (0,false)
 c8:C8 (D 8) F
 g8:σ 8=some (0,true)
 c9:C9 (D 9) F
 g9:σ 9=some (0,true)
 c10:C10 (D 10) F
 g10:σ 10=some (0,false)
 c11:C11 (D 11) F
 g11:σ 11=some (0,true)
 c12:C12 (D 12) F
 g12:σ 12=some (0,false)
 c13:C13 (D 13) F
 g13:σ 13=some (0,false)
 c14:C14 (D 14) F
 g14:σ 14=some (0,false)
 c15:C15 (D 15) F
 g15:σ 15=some (0,false)
 c16:C16 (D 16) F
 g16:σ 16=some (0,false)
 c17:C17 (D 17) F
 g17:σ 17=some (0,true)
abbrev R3 (r:Bool):(Nat→V)→Prop:=RR Try.prog [.tmp 2] 0 false (Enc.enc (r:Bool))
section
variable {D:Den} {σ:Sig} {F:Nat} {r:Bool}
def yn (F:Nat) (r_3:GR) (r_4:(Int×Bool)) (r_16:(Int×Bool))  (x_19:Bool):Option Bool:=
 bif x_19 then
  some false
 else
  bif (!r_16.2) then
   some true
  else
   bif (r_3.1 == 0) then
    some true
   else
    some (decide (r_4.1≤r_16.1))
theorem Xc (H:H3 D σ F) (r_3:GR) (r_4:(Int×Bool)) (r_16:(Int×Bool))  (x_19:Bool) (s:Nat→V) (hs:zl [(2,jb false),(3,bG 3 r_3),(4,ji r_4.1),(22,ji r_16.1),(23,jb r_16.2),(167,jb x_19)] s) (h:yn F r_3 r_4 r_16  x_19=some r):Run D σ (R3 r) (.nrm [.sq zol,.sq zpK]) s:=by
 unfold yn at h
 obtain ⟨h2,h3,h4,h22,h23,h167⟩:=hs
 refine .nsq (zk (t:=x_19) h167 h (fun h=>?_) (fun h=>?_))
 · refine .seq (rg (g0 (jb false) fun h2=>gq (.nsq (.ret ?_))))
   have hr:=Option.some.inj h
   subst hr
   exact rrA (zn h2) rfl
 refine .skip (.nsq (.seq (rg (gm h23 fun h168=>g1 168 (jb (!r_16.2)) h168 fun h169=>gm h169 fun h170=>zW (c:=(!r_16.2)) h (fun hg3 h=>?_) (fun hg3 h=>?_)))))
 · iterate 3 refine z9 (ct h170 hg3) ?_
   refine g2 170 173 (jb true) (ct h170 hg3) (rf (.tup [])) fun h174=>gm h174 fun h175=>z9 h175 ?_
   iterate 2 refine z9 h175 ?_
   refine g2 175 178 (jb true) h175 (rf (.tup [])) fun h179=>gm h179 fun h2=>gq (.nsq (.ret ?_))
   have hr:=Option.some.inj h
   subst hr
   exact rrA (zn h2) rfl
 refine zg (ct h170 hg3) (g1 3 (.ref (.bx 3) 0 [0] (ji r_3.1)) h3 fun h171=>zg (ct h170 hg3) (g1 171 (ji r_3.1) h171 fun h172=>zg (ct h170 hg3) (g1 172 (jb (r_3.1 == 0)) h172 fun h173=>g2 170 173 (jb (r_3.1 == 0)) (ct h170 hg3) h173 fun h174=>gm h174 fun h175=>zW (c:=(r_3.1 == 0)) h (fun hg8 h=>?_) (fun hg8 h=>?_))))
 · iterate 3 refine z9 (ct h175 hg8) ?_
   refine g2 175 178 (jb true) (ct h175 hg8) (rf (.tup [])) fun h179=>gm h179 fun h2=>gq (.nsq (.ret ?_))
   have hr:=Option.some.inj h
   subst hr
   exact rrA (zn h2) rfl
 refine zg (ct h175 hg8) (gm h4 fun h176=>zg (ct h175 hg8) (gm h22 fun h177=>zg (ct h175 hg8) (g2 176 177 (jb (decide (r_4.1≤r_16.1))) h176 h177 fun h178=>g2 175 178 (jb (decide (r_4.1≤r_16.1))) (ct h175 hg8) h178 fun h179=>gm h179 fun h2=>gq (.nsq (.ret ?_)))))
 have hr:=Option.some.inj h
 subst hr
 exact rrA (zn h2) rfl
def y7 (F:Nat) (x_1:LB) (r_3:GR) (r_4:(Int×Bool)) (r_6:(LI×Bool)) (r_8:(LI×Bool)) (r_10:(Int×Bool))  (x_14:Bool):Option Bool:=
 bif x_14 then
  some false
 else
  bif (!r_4.2) then
   some true
  else
   (yX F r_3 r_6.1).bind fun r_15=>
   (vQ F r_3).bind fun r_16=>
   (wL F x_1).bind fun r_17=>
   (yX F r_3 r_17.2).bind fun r_18=>
   bif (!r_15.2) then
    yn F r_3 r_4 r_16 true
   else
    bif (r_15.1 != r_4.1) then
     yn F r_3 r_4 r_16 true
    else
     bif r_18.2 then
      bif decide (r_18.1 < r_4.1) then
       yn F r_3 r_4 r_16 true
      else
       bif decide (r_10.1 > r_4.1) then
        yn F r_3 r_4 r_16 true
       else
        bif decide ((w64 ((r_8.1.length:Int) - 1)) > r_10.1) then
         yn F r_3 r_4 r_16 (decide (r_3.1 > 0))
        else
         yn F r_3 r_4 r_16 false
     else
      bif decide (r_10.1 > r_4.1) then
       yn F r_3 r_4 r_16 true
      else
       bif decide ((w64 ((r_8.1.length:Int) - 1)) > r_10.1) then
        yn F r_3 r_4 r_16 (decide (r_3.1 > 0))
       else
        yn F r_3 r_4 r_16 false
theorem XW (H:H3 D σ F) (x_1:LB) (r_3:GR) (r_4:(Int×Bool)) (r_6:(LI×Bool)) (r_8:(LI×Bool)) (r_10:(Int×Bool))  (x_14:Bool) (s:Nat→V) (hs:zl [(0,eB x_1),(2,jb false),(3,bG 3 r_3),(4,ji r_4.1),(5,jb r_4.2),(8,eL r_6.1),(12,eL r_8.1),(16,ji r_10.1),(111,jb x_14)] s) (h:y7 F x_1 r_3 r_4 r_6 r_8 r_10  x_14=some r):Run D σ (R3 r) (.nrm [.sq zql,.sq zoy]) s:=by
 unfold y7 at h
 obtain ⟨h0,h2,h3,h4,h5,h8,h12,h16,h111⟩:=hs
 refine .nsq (zk (t:=x_14) h111 h (fun h=>?_) (fun h=>?_))
 · refine .seq (rg (g0 (jb false) fun h2=>gq (.nsq (.ret ?_))))
   have hr:=Option.some.inj h
   subst hr
   exact rrA (zn h2) rfl
 refine .skip (.nsq (.seq (.seq (rg (gm h5 fun h112=>g1 112 (jb (!r_4.2)) h112 fun h113=>gq (.nsq (zk (t:=(!r_4.2)) h113 h (fun h=>?_) (fun h=>?_))))))))
 · refine .seq (rg (g0 (jb true) fun h2=>gq (.nsq (.ret ?_))))
   have hr:=Option.some.inj h
   subst hr
   exact rrA (zn h2) rfl
 refine .skip (.nsq (.seq (rg (g1 3 (gV r_3) h3 fun h115=>gm h8 fun h116=>?_))))
 obtain ⟨r_15,E_r_15,h⟩:=bind_some h
 refine zF (m:=0) (al:=false) (r:=.tup [Enc.enc (r_15.1:Int),Enc.enc (r_15.2:Bool)]) [Enc.enc (r_3:GR),eL r_6.1] (ze (v:=gV r_3) h115 rfl (Enc.erase_enc (r_3:GR)) (ze (v:=eL r_6.1) h116 rfl (Enc.erase_enc (r_6.1:LI)) zx)) (H.c15 _ _ _ E_r_15) H.g15 rfl rfl rfl rfl (gm (rf (.tup [ji r_15.1,jb r_15.2])) fun h114=>g1 114 (ji r_15.1) h114 fun h118=>g1 114 (jb r_15.2) h114 fun h119=>gm h118 fun h20=>gm h119 fun h21=>gz [(0,_),(2,_),(3,_),(4,_),(12,_),(16,_),(20,_),(21,_)] ⟨h0,h2,h3,h4,h12,h16,h20,h21⟩ ?_)
 rintro s ⟨h0,h2,h3,h4,h12,h16,h20,h21⟩
 refine .nsq (.seq (rg (g1 3 (gV r_3) h3 fun h121=>?_)))
 obtain ⟨r_16,E_r_16,h⟩:=bind_some h
 refine zF (m:=0) (al:=false) (r:=.tup [Enc.enc (r_16.1:Int),Enc.enc (r_16.2:Bool)]) [Enc.enc (r_3:GR)] (ze (v:=gV r_3) h121 rfl (Enc.erase_enc (r_3:GR)) zx) (H.c16 _ _ E_r_16) H.g16 rfl rfl rfl rfl (gm (rf (.tup [ji r_16.1,jb r_16.2])) fun h120=>g1 120 (ji r_16.1) h120 fun h123=>g1 120 (jb r_16.2) h120 fun h124=>gm h123 fun h22=>gm h124 fun h23=>gq (.nsq (.seq (zq (zS ?_)))))
 refine ez [(0,_),(2,_),(3,_),(4,_),(12,_),(16,_),(20,_),(21,_),(22,_),(23,_),(24,_)] ⟨za h0 rfl me,za h2 rfl mb,za h3 rfl (zf rfl mIE),za h4 rfl mi,za h12 rfl me,za h16 rfl mi,za h20 rfl mi,za h21 rfl mb,za h22 rfl mi,za h23 rfl mb,zc rfl⟩ ?_
 rintro s ⟨h0,h2,h3,h4,h12,h16,h20,h21,h22,h23,h24⟩
 refine gm h0 fun h126=>?_
 obtain ⟨r_17,E_r_17,h⟩:=bind_some h
 refine zF (m:=0) (al:=true) (r:=.tup [Enc.enc (r_17.1:GR),eL r_17.2]) [Enc.enc (x_1:LB)] (ze (v:=eB x_1) h126 rfl (Enc.erase_enc (x_1:LB)) zx) (H.c17 _ _ E_r_17) H.g17 (Jq (WQ (v:=eB x_1) h126 rfl rfl Jw)) rfl rfl rfl (gm (rf (.tup [gV r_17.1,eL r_17.2])) fun h125=>g1 125 (gV r_17.1) h125 fun h128=>g1 125 (eL r_17.2) h125 fun h129=>xk h24 (yb (gV r_17.1) (zw rfl rfl) (zw h128 rfl) (wj (by first | rfl | simp [V.toks,V.tokss,Enc.toks_enc,ya])) (gm (zb h129 uE) fun h25=>?_)))
 refine gz [(2,jb false),(3,bG 3 r_3),(4,ji r_4.1),(12,eL r_8.1),(16,ji r_10.1),(20,ji r_15.1),(21,jb r_15.2),(22,ji r_16.1),(23,jb r_16.2),(25,_)] ⟨zb h2 rfl,zb h3 (zC rfl rfl uIE),zb h4 rfl,zb h12 uE,zb h16 rfl,zb h20 rfl,zb h21 rfl,zb h22 rfl,zb h23 rfl,h25⟩ ?_
 rintro s ⟨h2,h3,h4,h12,h16,h20,h21,h22,h23,h25⟩
 refine .nsq (.seq (rg (g1 3 (gV r_3) h3 fun h131=>gm h25 fun h132=>?_)))
 obtain ⟨r_18,E_r_18,h⟩:=bind_some h
 refine zF (m:=0) (al:=false) (r:=.tup [Enc.enc (r_18.1:Int),Enc.enc (r_18.2:Bool)]) [Enc.enc (r_3:GR),eL r_17.2] (ze (v:=gV r_3) h131 rfl (Enc.erase_enc (r_3:GR)) (ze (v:=eL r_17.2) h132 rfl (Enc.erase_enc (r_17.2:LI)) zx)) (H.c15 _ _ _ E_r_18) H.g15 rfl rfl rfl rfl (gm (rf (.tup [ji r_18.1,jb r_18.2])) fun h130=>g1 130 (ji r_18.1) h130 fun h134=>g1 130 (jb r_18.2) h130 fun h135=>gm h134 fun h26=>gm h135 fun h27=>gq (.nsq (.seq (.seq (rg (gm h21 fun h136=>g1 136 (jb (!r_15.2)) h136 fun h137=>gm h137 fun h138=>zW (c:=(!r_15.2)) h (fun hg3 h=>?_) (fun hg3 h=>?_)))))))
 · iterate 3 refine z9 (ct h138 hg3) ?_
   refine g2 138 141 (jb true) (ct h138 hg3) (rf (.tup [])) fun h142=>gm h142 fun h143=>z9 h143 (z9 h143 ?_)
   iterate 3 refine uw rfl ?_
   refine z9 h143 (g2 143 149 (jb true) h143 (rf (.tup [])) fun h150=>gm h150 fun h151=>z9 h151 ?_)
   iterate 2 refine z9 h151 ?_
   refine g2 151 154 (jb true) h151 (rf (.tup [])) fun h155=>gm h155 fun h156=>z9 h156 ?_
   iterate 5 refine z9 h156 ?_
   iterate 3 refine uw rfl ?_
   refine z9 h156 (g2 156 166 (jb true) h156 (rf (.tup [])) fun h167=>gz [(2,_),(3,_),(4,_),(22,_),(23,_),(167,_)] ⟨h2,h3,h4,h22,h23,h167⟩ ?_)
   rintro s ⟨h2,h3,h4,h22,h23,h167⟩
   exact Xc H r_3 r_4 r_16 true _ ⟨h2,h3,h4,h22,h23,h167⟩ h
 refine zg (ct h138 hg3) (gm h20 fun h139=>zg (ct h138 hg3) (gm h4 fun h140=>zg (ct h138 hg3) (g2 139 140 (jb (r_15.1 != r_4.1)) h139 h140 fun h141=>g2 138 141 (jb (r_15.1 != r_4.1)) (ct h138 hg3) h141 fun h142=>gm h142 fun h143=>zW (c:=(r_15.1 != r_4.1)) h (fun hg8 h=>?_) (fun hg8 h=>?_))))
 · iterate 2 refine z9 (ct h143 hg8) ?_
   iterate 3 refine uw rfl ?_
   refine z9 (ct h143 hg8) (g2 143 149 (jb true) (ct h143 hg8) (rf (.tup [])) fun h150=>gm h150 fun h151=>z9 h151 ?_)
   iterate 2 refine z9 h151 ?_
   refine g2 151 154 (jb true) h151 (rf (.tup [])) fun h155=>gm h155 fun h156=>z9 h156 ?_
   iterate 5 refine z9 h156 ?_
   iterate 3 refine uw rfl ?_
   refine z9 h156 (g2 156 166 (jb true) h156 (rf (.tup [])) fun h167=>gz [(2,_),(3,_),(4,_),(22,_),(23,_),(167,_)] ⟨h2,h3,h4,h22,h23,h167⟩ ?_)
   rintro s ⟨h2,h3,h4,h22,h23,h167⟩
   exact Xc H r_3 r_4 r_16 true _ ⟨h2,h3,h4,h22,h23,h167⟩ h
 refine zg (ct h143 hg8) (gm h27 fun h144=>zg (ct h143 hg8) (gm h144 fun h145=>zW (c:=r_18.2) h (fun hg10 h=>?_) (fun hg10 h=>?_)))
 · refine zg (ct h145 hg10) (gm h26 fun h146=>zg (ct h145 hg10) (gm h4 fun h147=>zg (ct h145 hg10) (g2 146 147 (jb (decide (r_18.1 < r_4.1))) h146 h147 fun h148=>zg (ct h143 hg8) (g2 145 148 (jb (decide (r_18.1 < r_4.1))) (ct h145 hg10) h148 fun h149=>g2 143 149 (jb (decide (r_18.1 < r_4.1))) (ct h143 hg8) h149 fun h150=>gm h150 fun h151=>zW (c:=decide (r_18.1 < r_4.1)) h (fun hg16 h=>?_) (fun hg16 h=>?_)))))
   · iterate 3 refine z9 (ct h151 hg16) ?_
     refine g2 151 154 (jb true) (ct h151 hg16) (rf (.tup [])) fun h155=>gm h155 fun h156=>z9 h156 ?_
     iterate 5 refine z9 h156 ?_
     iterate 3 refine uw rfl ?_
     refine z9 h156 (g2 156 166 (jb true) h156 (rf (.tup [])) fun h167=>gz [(2,_),(3,_),(4,_),(22,_),(23,_),(167,_)] ⟨h2,h3,h4,h22,h23,h167⟩ ?_)
     rintro s ⟨h2,h3,h4,h22,h23,h167⟩
     exact Xc H r_3 r_4 r_16 true _ ⟨h2,h3,h4,h22,h23,h167⟩ h
   refine zg (ct h151 hg16) (gm h16 fun h152=>zg (ct h151 hg16) (gm h4 fun h153=>zg (ct h151 hg16) (g2 152 153 (jb (decide (r_10.1 > r_4.1))) h152 h153 fun h154=>g2 151 154 (jb (decide (r_10.1 > r_4.1))) (ct h151 hg16) h154 fun h155=>gm h155 fun h156=>zW (c:=decide (r_10.1 > r_4.1)) h (fun hg21 h=>?_) (fun hg21 h=>?_))))
   · iterate 6 refine z9 (ct h156 hg21) ?_
     iterate 3 refine uw rfl ?_
     refine z9 (ct h156 hg21) (g2 156 166 (jb true) (ct h156 hg21) (rf (.tup [])) fun h167=>gz [(2,_),(3,_),(4,_),(22,_),(23,_),(167,_)] ⟨h2,h3,h4,h22,h23,h167⟩ ?_)
     rintro s ⟨h2,h3,h4,h22,h23,h167⟩
     exact Xc H r_3 r_4 r_16 true _ ⟨h2,h3,h4,h22,h23,h167⟩ h
   refine zg (ct h156 hg21) (gm h12 fun h157=>zg (ct h156 hg21) (gv (ji (r_8.1.length:Int)) (yu (xs:=r_8.1) h157) fun h158=>zg (ct h156 hg21) (g1 158 (ji (w64 ((r_8.1.length:Int) - 1))) h158 fun h159=>zg (ct h156 hg21) (gm h16 fun h160=>zg (ct h156 hg21) (g2 159 160 (jb (decide ((w64 ((r_8.1.length:Int) - 1)) > r_10.1))) h159 h160 fun h161=>zg (ct h156 hg21) (gm h161 fun h162=>zW (c:=decide ((w64 ((r_8.1.length:Int) - 1)) > r_10.1)) h (fun hg27 h=>?_) (fun hg27 h=>?_)))))))
   · refine zg (ct h162 hg27) (g1 3 (.ref (.bx 3) 0 [0] (ji r_3.1)) h3 fun h163=>zg (ct h162 hg27) (g1 163 (ji r_3.1) h163 fun h164=>zg (ct h162 hg27) (g1 164 (jb (decide (r_3.1 > 0))) h164 fun h165=>zg (ct h156 hg21) (g2 162 165 (jb (decide (r_3.1 > 0))) (ct h162 hg27) h165 fun h166=>g2 156 166 (jb (decide (r_3.1 > 0))) (ct h156 hg21) h166 fun h167=>gz [(2,_),(3,_),(4,_),(22,_),(23,_),(167,_)] ⟨h2,h3,h4,h22,h23,h167⟩ ?_))))
     rintro s ⟨h2,h3,h4,h22,h23,h167⟩
     exact Xc H r_3 r_4 r_16 (decide (r_3.1 > 0)) _ ⟨h2,h3,h4,h22,h23,h167⟩ h
   iterate 3 refine z9 (ct h162 hg27) ?_
   refine zg (ct h156 hg21) (g2 162 165 (jb false) (ct h162 hg27) (rf (.tup [])) fun h166=>g2 156 166 (jb false) (ct h156 hg21) h166 fun h167=>gz [(2,_),(3,_),(4,_),(22,_),(23,_),(167,_)] ⟨h2,h3,h4,h22,h23,h167⟩ ?_)
   rintro s ⟨h2,h3,h4,h22,h23,h167⟩
   exact Xc H r_3 r_4 r_16 false _ ⟨h2,h3,h4,h22,h23,h167⟩ h
 iterate 3 refine z9 (ct h145 hg10) ?_
 refine zg (ct h143 hg8) (g2 145 148 (jb false) (ct h145 hg10) (rf (.tup [])) fun h149=>g2 143 149 (jb false) (ct h143 hg8) h149 fun h150=>gm h150 fun h151=>zg h151 (gm h16 fun h152=>zg h151 (gm h4 fun h153=>zg h151 (g2 152 153 (jb (decide (r_10.1 > r_4.1))) h152 h153 fun h154=>g2 151 154 (jb (decide (r_10.1 > r_4.1))) h151 h154 fun h155=>gm h155 fun h156=>zW (c:=decide (r_10.1 > r_4.1)) h (fun hg21 h=>?_) (fun hg21 h=>?_)))))
 · iterate 6 refine z9 (ct h156 hg21) ?_
   iterate 3 refine uw rfl ?_
   refine z9 (ct h156 hg21) (g2 156 166 (jb true) (ct h156 hg21) (rf (.tup [])) fun h167=>gz [(2,_),(3,_),(4,_),(22,_),(23,_),(167,_)] ⟨h2,h3,h4,h22,h23,h167⟩ ?_)
   rintro s ⟨h2,h3,h4,h22,h23,h167⟩
   exact Xc H r_3 r_4 r_16 true _ ⟨h2,h3,h4,h22,h23,h167⟩ h
 refine zg (ct h156 hg21) (gm h12 fun h157=>zg (ct h156 hg21) (gv (ji (r_8.1.length:Int)) (yu (xs:=r_8.1) h157) fun h158=>zg (ct h156 hg21) (g1 158 (ji (w64 ((r_8.1.length:Int) - 1))) h158 fun h159=>zg (ct h156 hg21) (gm h16 fun h160=>zg (ct h156 hg21) (g2 159 160 (jb (decide ((w64 ((r_8.1.length:Int) - 1)) > r_10.1))) h159 h160 fun h161=>zg (ct h156 hg21) (gm h161 fun h162=>zW (c:=decide ((w64 ((r_8.1.length:Int) - 1)) > r_10.1)) h (fun hg27 h=>?_) (fun hg27 h=>?_)))))))
 · refine zg (ct h162 hg27) (g1 3 (.ref (.bx 3) 0 [0] (ji r_3.1)) h3 fun h163=>zg (ct h162 hg27) (g1 163 (ji r_3.1) h163 fun h164=>zg (ct h162 hg27) (g1 164 (jb (decide (r_3.1 > 0))) h164 fun h165=>zg (ct h156 hg21) (g2 162 165 (jb (decide (r_3.1 > 0))) (ct h162 hg27) h165 fun h166=>g2 156 166 (jb (decide (r_3.1 > 0))) (ct h156 hg21) h166 fun h167=>gz [(2,_),(3,_),(4,_),(22,_),(23,_),(167,_)] ⟨h2,h3,h4,h22,h23,h167⟩ ?_))))
   rintro s ⟨h2,h3,h4,h22,h23,h167⟩
   exact Xc H r_3 r_4 r_16 (decide (r_3.1 > 0)) _ ⟨h2,h3,h4,h22,h23,h167⟩ h
 iterate 3 refine z9 (ct h162 hg27) ?_
 refine zg (ct h156 hg21) (g2 162 165 (jb false) (ct h162 hg27) (rf (.tup [])) fun h166=>g2 156 166 (jb false) (ct h156 hg21) h166 fun h167=>gz [(2,_),(3,_),(4,_),(22,_),(23,_),(167,_)] ⟨h2,h3,h4,h22,h23,h167⟩ ?_)
 rintro s ⟨h2,h3,h4,h22,h23,h167⟩
 exact Xc H r_3 r_4 r_16 false _ ⟨h2,h3,h4,h22,h23,h167⟩ h
def wZ (F:Nat) (x_1:LB):Option Bool:=
 (Kx F x_1).bind fun r_2=>
 bif r_2 then
  some true
 else
  (wo F x_1).bind fun r_3=>
  (wz F r_3).bind fun r_4=>
  (wF F r_3).bind fun r_5=>
  (y8 F r_3).bind fun r_6=>
  (xu F r_3).bind fun r_7=>
  (uK F r_3).bind fun r_8=>
  (uQ F r_3).bind fun r_9=>
  (vj F r_3).bind fun r_10=>
  (vq F r_3).bind fun r_11=>
  bif (r_4.1 != r_5.1) then
   y7 F x_1 r_3 r_4 r_6 r_8 r_10 true
  else
   bif (r_4.2 != r_5.2) then
    y7 F x_1 r_3 r_4 r_6 r_8 r_10 true
   else
    bif (r_6.2 != r_7.2) then
     y7 F x_1 r_3 r_4 r_6 r_8 r_10 true
    else
     (XX F r_6.1 r_7.1).bind fun r_20=>
     bif (!r_20) then
      y7 F x_1 r_3 r_4 r_6 r_8 r_10 true
     else
      bif (r_8.2 != r_9.2) then
       y7 F x_1 r_3 r_4 r_6 r_8 r_10 true
      else
       (XX F r_8.1 r_9.1).bind fun r_21=>
       bif (!r_21) then
        y7 F x_1 r_3 r_4 r_6 r_8 r_10 true
       else
        bif (r_10.1 != r_11.1) then
         y7 F x_1 r_3 r_4 r_6 r_8 r_10 true
        else
         y7 F x_1 r_3 r_4 r_6 r_8 r_10 (r_10.2 != r_11.2)
theorem t3 (H:H3 D σ F) (x_1:LB) (s:Nat→V) (hs:zl [(0,eB x_1)] s) (h:wZ F x_1=some r):Run D σ (R3 r) (.run A3 []) s:=by
 unfold wZ at h
 have h0:=hs
 refine .seq (rg (g0 (jb false) fun h2=>gq (.nsq (.seq (.seq (rg (gm h0 fun h28=>?_)))))))
 obtain ⟨r_2,E_r_2,h⟩:=bind_some h
 refine zF (m:=0) (al:=false) (r:=Enc.enc (r_2:Bool)) [Enc.enc (x_1:LB)] (ze (v:=eB x_1) h28 rfl (Enc.erase_enc (x_1:LB)) zx) (H.c4 _ _ E_r_2) H.g4 rfl rfl rfl rfl (gq (.nsq (zk (t:=r_2) rfl h (fun h=>?_) (fun h=>?_))))
 · refine .seq (rg (g0 (jb true) fun h2=>gq (.nsq (.ret ?_))))
   have hr:=Option.some.inj h
   subst hr
   exact rrA (zn h2) rfl
 refine .skip (.nsq (.seq (zq (zS ?_))))
 refine ez [(0,_),(2,_),(3,_)] ⟨za h0 rfl me,za h2 rfl mb,zc rfl⟩ ?_
 rintro s ⟨h0,h2,h3⟩
 refine gm h0 fun h30=>?_
 obtain ⟨r_3,E_r_3,h⟩:=bind_some h
 refine zF (m:=0) (al:=true) (r:=Enc.enc (r_3:GR)) [Enc.enc (x_1:LB)] (ze (v:=eB x_1) h30 rfl (Enc.erase_enc (x_1:LB)) zx) (H.c5 _ _ E_r_3) H.g5 (Jq (WQ (v:=eB x_1) h30 rfl rfl Jw)) rfl rfl rfl (xk h3 (yb (gV r_3) (zw rfl rfl) (zw rfl rfl) (wj (by first | rfl | simp [V.toks,V.tokss,Enc.toks_enc,ya])) (gz [(0,eB x_1),(2,jb false),(3,bG 3 r_3)] ⟨zb h0 uE,zb h2 rfl,zb rfl rfl⟩ ?_)))
 rintro s ⟨h0,h2,h3⟩
 refine .nsq (.seq (rg (g1 3 (gV r_3) h3 fun h33=>?_)))
 obtain ⟨r_4,E_r_4,h⟩:=bind_some h
 refine zF (m:=0) (al:=false) (r:=.tup [Enc.enc (r_4.1:Int),Enc.enc (r_4.2:Bool)]) [Enc.enc (r_3:GR)] (ze (v:=gV r_3) h33 rfl (Enc.erase_enc (r_3:GR)) zx) (H.c6 _ _ E_r_4) H.g6 rfl rfl rfl rfl (gm (rf (.tup [ji r_4.1,jb r_4.2])) fun h32=>g1 32 (ji r_4.1) h32 fun h35=>g1 32 (jb r_4.2) h32 fun h36=>gm h35 fun h4=>gm h36 fun h5=>gq (.nsq (.seq (rg (g1 3 (gV r_3) h3 fun h38=>?_)))))
 obtain ⟨r_5,E_r_5,h⟩:=bind_some h
 refine zF (m:=0) (al:=false) (r:=.tup [Enc.enc (r_5.1:Int),Enc.enc (r_5.2:Bool)]) [Enc.enc (r_3:GR)] (ze (v:=gV r_3) h38 rfl (Enc.erase_enc (r_3:GR)) zx) (H.c7 _ _ E_r_5) H.g7 rfl rfl rfl rfl (gm (rf (.tup [ji r_5.1,jb r_5.2])) fun h37=>g1 37 (ji r_5.1) h37 fun h40=>g1 37 (jb r_5.2) h37 fun h41=>gm h40 fun h6=>gm h41 fun h7=>gq (.nsq (.seq (rg (g1 3 (gV r_3) h3 fun h43=>?_)))))
 obtain ⟨r_6,E_r_6,h⟩:=bind_some h
 refine zF (m:=0) (al:=true) (r:=.tup [eL r_6.1,Enc.enc (r_6.2:Bool)]) [Enc.enc (r_3:GR)] (ze (v:=gV r_3) h43 rfl (Enc.erase_enc (r_3:GR)) zx) (H.c8 _ _ E_r_6) H.g8 (Jq (WQ (v:=gV r_3) h43 rfl rfl Jw)) rfl rfl rfl (gm (rf (.tup [eL r_6.1,jb r_6.2])) fun h42=>g1 42 (eL r_6.1) h42 fun h45=>g1 42 (jb r_6.2) h42 fun h46=>gm h45 fun h8=>gm h46 fun h9=>gq (.nsq (.seq (rg (g1 3 (gV r_3) h3 fun h48=>?_)))))
 obtain ⟨r_7,E_r_7,h⟩:=bind_some h
 refine zF (m:=0) (al:=true) (r:=.tup [eL r_7.1,Enc.enc (r_7.2:Bool)]) [Enc.enc (r_3:GR)] (ze (v:=gV r_3) h48 rfl (Enc.erase_enc (r_3:GR)) zx) (H.c9 _ _ E_r_7) H.g9 (Jq (WQ (v:=gV r_3) h48 rfl rfl Jw)) rfl rfl rfl (gm (rf (.tup [eL r_7.1,jb r_7.2])) fun h47=>g1 47 (eL r_7.1) h47 fun h50=>g1 47 (jb r_7.2) h47 fun h51=>gm h50 fun h10=>gm h51 fun h11=>gq (.nsq (.seq (rg (g1 3 (gV r_3) h3 fun h53=>?_)))))
 obtain ⟨r_8,E_r_8,h⟩:=bind_some h
 refine zF (m:=0) (al:=false) (r:=.tup [eL r_8.1,Enc.enc (r_8.2:Bool)]) [Enc.enc (r_3:GR)] (ze (v:=gV r_3) h53 rfl (Enc.erase_enc (r_3:GR)) zx) (H.c10 _ _ E_r_8) H.g10 rfl rfl rfl rfl (gm (rf (.tup [eL r_8.1,jb r_8.2])) fun h52=>g1 52 (eL r_8.1) h52 fun h55=>g1 52 (jb r_8.2) h52 fun h56=>gm h55 fun h12=>gm h56 fun h13=>gz [(0,_),(2,_),(3,_),(4,_),(5,_),(6,_),(7,_),(8,_),(9,_),(10,_),(11,_),(12,_),(13,_)] ⟨h0,h2,h3,h4,h5,h6,h7,h8,h9,h10,h11,h12,h13⟩ ?_)
 rintro s ⟨h0,h2,h3,h4,h5,h6,h7,h8,h9,h10,h11,h12,h13⟩
 refine .nsq (.seq (rg (g1 3 (gV r_3) h3 fun h58=>?_)))
 obtain ⟨r_9,E_r_9,h⟩:=bind_some h
 refine zF (m:=0) (al:=true) (r:=.tup [eL r_9.1,Enc.enc (r_9.2:Bool)]) [Enc.enc (r_3:GR)] (ze (v:=gV r_3) h58 rfl (Enc.erase_enc (r_3:GR)) zx) (H.c11 _ _ E_r_9) H.g11 (Jq (WQ (v:=gV r_3) h58 rfl rfl Jw)) rfl rfl rfl (gm (rf (.tup [eL r_9.1,jb r_9.2])) fun h57=>g1 57 (eL r_9.1) h57 fun h60=>g1 57 (jb r_9.2) h57 fun h61=>gm h60 fun h14=>gm h61 fun h15=>gq (.nsq (.seq (rg (g1 3 (gV r_3) h3 fun h63=>?_)))))
 obtain ⟨r_10,E_r_10,h⟩:=bind_some h
 refine zF (m:=0) (al:=false) (r:=.tup [Enc.enc (r_10.1:Int),Enc.enc (r_10.2:Bool)]) [Enc.enc (r_3:GR)] (ze (v:=gV r_3) h63 rfl (Enc.erase_enc (r_3:GR)) zx) (H.c12 _ _ E_r_10) H.g12 rfl rfl rfl rfl (gm (rf (.tup [ji r_10.1,jb r_10.2])) fun h62=>g1 62 (ji r_10.1) h62 fun h65=>g1 62 (jb r_10.2) h62 fun h66=>gm h65 fun h16=>gm h66 fun h17=>gq (.nsq (.seq (rg (g1 3 (gV r_3) h3 fun h68=>?_)))))
 obtain ⟨r_11,E_r_11,h⟩:=bind_some h
 refine zF (m:=0) (al:=false) (r:=.tup [Enc.enc (r_11.1:Int),Enc.enc (r_11.2:Bool)]) [Enc.enc (r_3:GR)] (ze (v:=gV r_3) h68 rfl (Enc.erase_enc (r_3:GR)) zx) (H.c13 _ _ E_r_11) H.g13 rfl rfl rfl rfl (gm (rf (.tup [ji r_11.1,jb r_11.2])) fun h67=>g1 67 (ji r_11.1) h67 fun h70=>g1 67 (jb r_11.2) h67 fun h71=>gm h70 fun h18=>gm h71 fun h19=>gq (.nsq (.seq (.seq (rg (gm h4 fun h72=>gm h6 fun h73=>g2 72 73 (jb (r_4.1 != r_5.1)) h72 h73 fun h74=>gm h74 fun h75=>zW (c:=(r_4.1 != r_5.1)) h (fun hg4 h=>?_) (fun hg4 h=>?_)))))))
 · iterate 3 refine z9 (ct h75 hg4) ?_
   refine g2 75 78 (jb true) (ct h75 hg4) (rf (.tup [])) fun h79=>gm h79 fun h80=>z9 h80 ?_
   iterate 2 refine z9 h80 ?_
   refine g2 80 83 (jb true) h80 (rf (.tup [])) fun h84=>gm h84 fun h85=>z9 h85 ?_
   iterate 3 refine z9 h85 ?_
   refine g2 85 89 (jb true) h85 (rf (.tup [])) fun h90=>gm h90 fun h91=>z9 h91 ?_
   iterate 2 refine z9 h91 ?_
   refine g2 91 94 (jb true) h91 (rf (.tup [])) fun h95=>gm h95 fun h96=>z9 h96 ?_
   iterate 3 refine z9 h96 ?_
   refine g2 96 100 (jb true) h96 (rf (.tup [])) fun h101=>gm h101 fun h102=>z9 h102 ?_
   iterate 2 refine z9 h102 ?_
   refine g2 102 105 (jb true) h102 (rf (.tup [])) fun h106=>gm h106 fun h107=>z9 h107 ?_
   iterate 2 refine z9 h107 ?_
   refine g2 107 110 (jb true) h107 (rf (.tup [])) fun h111=>gz [(0,_),(2,_),(3,_),(4,_),(5,_),(8,_),(12,_),(16,_),(111,_)] ⟨h0,h2,h3,h4,h5,h8,h12,h16,h111⟩ ?_
   rintro s ⟨h0,h2,h3,h4,h5,h8,h12,h16,h111⟩
   exact XW H x_1 r_3 r_4 r_6 r_8 r_10 true _ ⟨h0,h2,h3,h4,h5,h8,h12,h16,h111⟩ h
 refine zg (ct h75 hg4) (gm h5 fun h76=>zg (ct h75 hg4) (gm h7 fun h77=>zg (ct h75 hg4) (g2 76 77 (jb (r_4.2 != r_5.2)) h76 h77 fun h78=>g2 75 78 (jb (r_4.2 != r_5.2)) (ct h75 hg4) h78 fun h79=>gm h79 fun h80=>zW (c:=(r_4.2 != r_5.2)) h (fun hg9 h=>?_) (fun hg9 h=>?_))))
 · iterate 3 refine z9 (ct h80 hg9) ?_
   refine g2 80 83 (jb true) (ct h80 hg9) (rf (.tup [])) fun h84=>gm h84 fun h85=>z9 h85 ?_
   iterate 3 refine z9 h85 ?_
   refine g2 85 89 (jb true) h85 (rf (.tup [])) fun h90=>gm h90 fun h91=>z9 h91 ?_
   iterate 2 refine z9 h91 ?_
   refine g2 91 94 (jb true) h91 (rf (.tup [])) fun h95=>gm h95 fun h96=>z9 h96 ?_
   iterate 3 refine z9 h96 ?_
   refine g2 96 100 (jb true) h96 (rf (.tup [])) fun h101=>gm h101 fun h102=>z9 h102 ?_
   iterate 2 refine z9 h102 ?_
   refine g2 102 105 (jb true) h102 (rf (.tup [])) fun h106=>gm h106 fun h107=>z9 h107 ?_
   iterate 2 refine z9 h107 ?_
   refine g2 107 110 (jb true) h107 (rf (.tup [])) fun h111=>gz [(0,_),(2,_),(3,_),(4,_),(5,_),(8,_),(12,_),(16,_),(111,_)] ⟨h0,h2,h3,h4,h5,h8,h12,h16,h111⟩ ?_
   rintro s ⟨h0,h2,h3,h4,h5,h8,h12,h16,h111⟩
   exact XW H x_1 r_3 r_4 r_6 r_8 r_10 true _ ⟨h0,h2,h3,h4,h5,h8,h12,h16,h111⟩ h
 refine zg (ct h80 hg9) (gm h9 fun h81=>zg (ct h80 hg9) (gm h11 fun h82=>zg (ct h80 hg9) (g2 81 82 (jb (r_6.2 != r_7.2)) h81 h82 fun h83=>g2 80 83 (jb (r_6.2 != r_7.2)) (ct h80 hg9) h83 fun h84=>gm h84 fun h85=>zW (c:=(r_6.2 != r_7.2)) h (fun hg14 h=>?_) (fun hg14 h=>?_))))
 · iterate 4 refine z9 (ct h85 hg14) ?_
   refine g2 85 89 (jb true) (ct h85 hg14) (rf (.tup [])) fun h90=>gm h90 fun h91=>z9 h91 ?_
   iterate 2 refine z9 h91 ?_
   refine g2 91 94 (jb true) h91 (rf (.tup [])) fun h95=>gm h95 fun h96=>z9 h96 ?_
   iterate 3 refine z9 h96 ?_
   refine g2 96 100 (jb true) h96 (rf (.tup [])) fun h101=>gm h101 fun h102=>z9 h102 ?_
   iterate 2 refine z9 h102 ?_
   refine g2 102 105 (jb true) h102 (rf (.tup [])) fun h106=>gm h106 fun h107=>z9 h107 ?_
   iterate 2 refine z9 h107 ?_
   refine g2 107 110 (jb true) h107 (rf (.tup [])) fun h111=>gz [(0,_),(2,_),(3,_),(4,_),(5,_),(8,_),(12,_),(16,_),(111,_)] ⟨h0,h2,h3,h4,h5,h8,h12,h16,h111⟩ ?_
   rintro s ⟨h0,h2,h3,h4,h5,h8,h12,h16,h111⟩
   exact XW H x_1 r_3 r_4 r_6 r_8 r_10 true _ ⟨h0,h2,h3,h4,h5,h8,h12,h16,h111⟩ h
 refine zg (ct h85 hg14) (gm h8 fun h86=>zg (ct h85 hg14) (gm h10 fun h87=>?_))
 obtain ⟨r_20,E_r_20,h⟩:=bind_some h
 refine zg (ct h85 hg14) (zF (m:=0) (al:=false) (r:=Enc.enc (r_20:Bool)) [eL r_6.1,eL r_7.1] (ze (v:=eL r_6.1) h86 rfl (Enc.erase_enc (r_6.1:LI)) (ze (v:=eL r_7.1) h87 rfl (Enc.erase_enc (r_7.1:LI)) zx)) (H.c14 _ _ _ E_r_20) H.g14 rfl rfl rfl rfl (zg (ct h85 hg14) (g1 88 (jb (!r_20)) (rf (jb r_20)) fun h89=>g2 85 89 (jb (!r_20)) (ct h85 hg14) h89 fun h90=>gm h90 fun h91=>zW (c:=(!r_20)) h (fun hg20 h=>?_) (fun hg20 h=>?_))))
 · iterate 3 refine z9 (ct h91 hg20) ?_
   refine g2 91 94 (jb true) (ct h91 hg20) (rf (.tup [])) fun h95=>gm h95 fun h96=>z9 h96 ?_
   iterate 3 refine z9 h96 ?_
   refine g2 96 100 (jb true) h96 (rf (.tup [])) fun h101=>gm h101 fun h102=>z9 h102 ?_
   iterate 2 refine z9 h102 ?_
   refine g2 102 105 (jb true) h102 (rf (.tup [])) fun h106=>gm h106 fun h107=>z9 h107 ?_
   iterate 2 refine z9 h107 ?_
   refine g2 107 110 (jb true) h107 (rf (.tup [])) fun h111=>gz [(0,_),(2,_),(3,_),(4,_),(5,_),(8,_),(12,_),(16,_),(111,_)] ⟨h0,h2,h3,h4,h5,h8,h12,h16,h111⟩ ?_
   rintro s ⟨h0,h2,h3,h4,h5,h8,h12,h16,h111⟩
   exact XW H x_1 r_3 r_4 r_6 r_8 r_10 true _ ⟨h0,h2,h3,h4,h5,h8,h12,h16,h111⟩ h
 refine zg (ct h91 hg20) (gm h13 fun h92=>zg (ct h91 hg20) (gm h15 fun h93=>zg (ct h91 hg20) (g2 92 93 (jb (r_8.2 != r_9.2)) h92 h93 fun h94=>g2 91 94 (jb (r_8.2 != r_9.2)) (ct h91 hg20) h94 fun h95=>gm h95 fun h96=>zW (c:=(r_8.2 != r_9.2)) h (fun hg25 h=>?_) (fun hg25 h=>?_))))
 · iterate 4 refine z9 (ct h96 hg25) ?_
   refine g2 96 100 (jb true) (ct h96 hg25) (rf (.tup [])) fun h101=>gm h101 fun h102=>z9 h102 ?_
   iterate 2 refine z9 h102 ?_
   refine g2 102 105 (jb true) h102 (rf (.tup [])) fun h106=>gm h106 fun h107=>z9 h107 ?_
   iterate 2 refine z9 h107 ?_
   refine g2 107 110 (jb true) h107 (rf (.tup [])) fun h111=>gz [(0,_),(2,_),(3,_),(4,_),(5,_),(8,_),(12,_),(16,_),(111,_)] ⟨h0,h2,h3,h4,h5,h8,h12,h16,h111⟩ ?_
   rintro s ⟨h0,h2,h3,h4,h5,h8,h12,h16,h111⟩
   exact XW H x_1 r_3 r_4 r_6 r_8 r_10 true _ ⟨h0,h2,h3,h4,h5,h8,h12,h16,h111⟩ h
 refine zg (ct h96 hg25) (gm h12 fun h97=>zg (ct h96 hg25) (gm h14 fun h98=>?_))
 obtain ⟨r_21,E_r_21,h⟩:=bind_some h
 refine zg (ct h96 hg25) (zF (m:=0) (al:=false) (r:=Enc.enc (r_21:Bool)) [eL r_8.1,eL r_9.1] (ze (v:=eL r_8.1) h97 rfl (Enc.erase_enc (r_8.1:LI)) (ze (v:=eL r_9.1) h98 rfl (Enc.erase_enc (r_9.1:LI)) zx)) (H.c14 _ _ _ E_r_21) H.g14 rfl rfl rfl rfl (zg (ct h96 hg25) (g1 99 (jb (!r_21)) (rf (jb r_21)) fun h100=>g2 96 100 (jb (!r_21)) (ct h96 hg25) h100 fun h101=>gm h101 fun h102=>zW (c:=(!r_21)) h (fun hg31 h=>?_) (fun hg31 h=>?_))))
 · iterate 3 refine z9 (ct h102 hg31) ?_
   refine g2 102 105 (jb true) (ct h102 hg31) (rf (.tup [])) fun h106=>gm h106 fun h107=>z9 h107 ?_
   iterate 2 refine z9 h107 ?_
   refine g2 107 110 (jb true) h107 (rf (.tup [])) fun h111=>gz [(0,_),(2,_),(3,_),(4,_),(5,_),(8,_),(12,_),(16,_),(111,_)] ⟨h0,h2,h3,h4,h5,h8,h12,h16,h111⟩ ?_
   rintro s ⟨h0,h2,h3,h4,h5,h8,h12,h16,h111⟩
   exact XW H x_1 r_3 r_4 r_6 r_8 r_10 true _ ⟨h0,h2,h3,h4,h5,h8,h12,h16,h111⟩ h
 refine zg (ct h102 hg31) (gm h16 fun h103=>zg (ct h102 hg31) (gm h18 fun h104=>zg (ct h102 hg31) (g2 103 104 (jb (r_10.1 != r_11.1)) h103 h104 fun h105=>g2 102 105 (jb (r_10.1 != r_11.1)) (ct h102 hg31) h105 fun h106=>gm h106 fun h107=>zW (c:=(r_10.1 != r_11.1)) h (fun hg36 h=>?_) (fun hg36 h=>?_))))
 · iterate 3 refine z9 (ct h107 hg36) ?_
   refine g2 107 110 (jb true) (ct h107 hg36) (rf (.tup [])) fun h111=>gz [(0,_),(2,_),(3,_),(4,_),(5,_),(8,_),(12,_),(16,_),(111,_)] ⟨h0,h2,h3,h4,h5,h8,h12,h16,h111⟩ ?_
   rintro s ⟨h0,h2,h3,h4,h5,h8,h12,h16,h111⟩
   exact XW H x_1 r_3 r_4 r_6 r_8 r_10 true _ ⟨h0,h2,h3,h4,h5,h8,h12,h16,h111⟩ h
 refine zg (ct h107 hg36) (gm h17 fun h108=>zg (ct h107 hg36) (gm h19 fun h109=>zg (ct h107 hg36) (g2 108 109 (jb (r_10.2 != r_11.2)) h108 h109 fun h110=>g2 107 110 (jb (r_10.2 != r_11.2)) (ct h107 hg36) h110 fun h111=>gz [(0,_),(2,_),(3,_),(4,_),(5,_),(8,_),(12,_),(16,_),(111,_)] ⟨h0,h2,h3,h4,h5,h8,h12,h16,h111⟩ ?_)))
 rintro s ⟨h0,h2,h3,h4,h5,h8,h12,h16,h111⟩
 exact XW H x_1 r_3 r_4 r_6 r_8 r_10 (r_10.2 != r_11.2) _ ⟨h0,h2,h3,h4,h5,h8,h12,h16,h111⟩ h
end
def e3 (F:Nat):Ent:=ent 3 (fun (x:(LB×Unit))=>wZ F x.1) (fun (r:Bool)=>(Enc.enc (r:Bool))) 0 false []
theorem p3 {F:Nat} {x0:LB} {r:Bool} (h:wZ F x0=some r):(e3 F).den [Enc.enc x0]=some (Enc.enc (r:Bool)):=zN (x0,()) h
theorem o3 {D:Den} {σ:Sig} {F:Nat} (hF:zy Try.prog D σ) (H:H3 D σ F):(e3 F).Ok Try.prog:=by
 refine yl (f:=3) (show unk 3=3 from rfl) (fun args r h=>?_) ⟨Try.f3,Try.func3,rfl,rfl⟩
 obtain ⟨⟨x0,_⟩,y,rfl,hy,rfl⟩:=zM h
 exact zm hF (by kernel_rfl) Try.func3 rfl c3 (show 1≤Try.f3.ntmps by decide) (t3 H x0 _ rfl hy)
end Go.Zq
