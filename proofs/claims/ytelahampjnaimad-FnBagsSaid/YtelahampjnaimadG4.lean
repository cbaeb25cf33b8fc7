/- Functions of the program as typed functions, and that the machine runs as they say (part 4). No further condition. -/
import Derived.Test.YtelahampjnaimadK4
import Derived.Test.YtelahampjnaimadProg
import Derived.Test.YtelahampjnaimadChecked
import Derived.KernelRfl
import Derived.Test.YtelahampjnaimadG3
set_option linter.unusedVariables false
set_option linter.unusedSimpArgs false
namespace Go.Zq
open Go.Proofs
variable {D:Den} {σ:Sig} {F:Nat}
def zpT:AC:=(.cond (.t 11) .skip (.exit 0))
def zkU:AC:=(.cond (.t 37) (.seq (rr [jv 6 (.mov kf)]) .ret) .skip)
def zky:AC:=(rr [jm 12 7,jv 13 (.bin .add (.t 12) (jn 1)),jm 7 13])
def zrE:AC:=(.seq (.block 1 (.seq (rr [jm 14 0,jm 15 7,jv 16 (.idx (.t 14) (.t 15) 1),jl 17 16,jm 18 1,jm 19 2,jx 20 (.call (jf 41) [.t 17,.t 18,.t 19]),jv 21 (.un .not (.t 20)),jm 22 21,jg 23 22 false (.mov (.t 7)),jg 24 22 false (.bin .gtr (.t 23) (jn 0)),jg 25 22 false (.mov (.t 24)),jg 26 25 true (.mov (.t 0)),jg 27 25 true (.mov (.t 7)),jg 28 25 true (.bin .sub (.t 27) (jn 1)),jg 29 25 true (.idx (.t 26) (.t 28) 1),jg 30 25 true (.load .s (.t 29)),jg 31 25 true (.mov (.t 0)),jg 32 25 true (.mov (.t 7)),jg 33 25 true (.idx (.t 31) (.t 32) 1),jg 34 25 true (.load .s (.t 33)),jg 35 25 true (.bin .geq (.t 30) (.t 34)),jg 36 22 false (.pick (.t 25) (.t 35) kf),jv 37 (.pick (.t 22) kt (.t 36))]) zkU)) zky)
def NR:AC:=(.seq (.seq (rr [jm 8 7,jm 9 0,jk 10 9,jv 11 (.bin .lss (.t 8) (.t 10))]) zpT) zrE)
def zeG:AC:=(.seq (rr [jv 6 (.mov kt)]) .ret)
def zol:AC:=(.block 0 (.loop NR))
def znI:AC:=(.seq (.seq (rr [jv 7 (.mov (jn 0))]) zol) zeG)
def A82:AC:=(.seq (rr [jv 6 (.mov kf)]) znI)
def ztj:List An:=[]
theorem c82:cq Try.prog Try.f82 ztj=some A82:=by kernel_rfl
structure H82 (D:Den) (σ:Sig) (F:Nat):Prop where
 c41:C41 (D 41) F
 g41:σ 41=some (0,false)
abbrev R82 (r:Bool):(Nat→V)→Prop:=RR Try.prog [.tmp 6] 0 false (Enc.enc (r:Bool))
section
variable {r:Bool}
def uv (F:Nat) (x1:LI) (x2:Int) (x3:Int) (x13:Int) (c1:Int→Option Bool) (x27:Bool):Option Bool:=
 bif x27 then
  some false
 else
  c1 (w64 (x13 + 1))
theorem MR (H:H82 D σ F) (x1:LI) (x2:Int) (x3:Int) (x13:Int) (c1:Int→Option Bool) (Hc1:∀ (x13:Int) (s:Nat→V),zr [(0,eL x1),(1,ji x2),(2,ji x3),(6,jb false),(7,ji x13)] s→c1 x13=some r→Run D σ (R82 r) (.run NR [.lp NR,.bk 0,.sq zeG]) s) (x27:Bool) (s:Nat→V) (hs:zr [(0,eL x1),(1,ji x2),(2,ji x3),(6,jb false),(7,ji x13),(37,jb x27)] s) (h:uv F x1 x2 x3 x13 c1 x27=some r):Run D σ (R82 r) (.nrm [.sq zkU,.bk 1,.sq zky,.lp NR,.bk 0,.sq zeG]) s:=by
 unfold uv at h
 obtain ⟨h0,h1,h2,h6,h7,h37⟩:=hs
 refine .nsq (zk h37 h (fun h=>?_) (fun h=>?_))
 · refine .seq (rg (g0 (jb false) fun h6=>gq (.nsq (.ret ?_))))
   obtain rfl:=oi h
   exact rrA (zl h6) rfl
 refine .skip (.nbk (.nsq (rg (gm h7 fun h12=>g1 12 (ji (w64 (x13 + 1))) h12 fun h13=>gm h13 fun h7=>gq (.nlp ?_)))))
 exact Hc1 (w64 (x13 + 1)) _ ⟨h0,h1,h2,h6,h7⟩ h
def xt (F:Nat) (x1:LI) (x2:Int) (x3:Int) :Nat→Int→Option Bool
 | 0,_=>none
 | k + 1,x13=>
   bif decide (x13 < (x1.length:Int)) then
    (idx x1 x13).bind fun v28=>
    (Wb F v28 x2 x3).bind fun r29=>
    bif (!r29) then
     uv F x1 x2 x3 x13 (xt F x1 x2 x3 k) true
    else
     bif decide (x13 > 0) then
      (idx x1 (w64 (x13 - 1))).bind fun v30=>
      (idx x1 x13).bind fun v31=>
      uv F x1 x2 x3 x13 (xt F x1 x2 x3 k) (decide (v30≥v31))
     else
      uv F x1 x2 x3 x13 (xt F x1 x2 x3 k) false
   else
    some true
theorem zgz (H:H82 D σ F) (x1:LI) (x2:Int) (x3:Int) :∀ (k:Nat) (x13:Int) (s:Nat→V),zr [(0,eL x1),(1,ji x2),(2,ji x3),(6,jb false),(7,ji x13)] s→xt F x1 x2 x3 k x13=some r→Run D σ (R82 r) (.run NR [.lp NR,.bk 0,.sq zeG]) s:=by
 intro k
 induction k with
 | zero=>intro x13 s _ h;exact nm h
 | succ k ih=>
   intro x13 s hs h
   rw [xt] at h
   obtain ⟨h0,h1,h2,h6,h7⟩:=hs
   refine .seq (.seq (rg (gm h7 fun h8=>gm h0 fun h9=>gl x1 h9 fun h10=>g2 8 10 (jb (decide (x13 < (x1.length:Int)))) h8 h10 fun h11=>gq (.nsq (zk h11 h (fun h=>?_) (fun h=>?_))))))
   · refine .skip (.nsq (.seq (.block (.seq (rg (gm h0 fun h14=>gm h7 fun h15=>?_))))))
     obtain ⟨v28,Ev28,h⟩:=zb h
     refine gv (.ref .sh 0 [] (ji v28)) (yn (t:=.sh) (lo:=0) (xs:=x1) h14 h15 Ev28 rfl rfl) fun h16=>g1 16 (ji v28) h16 fun h17=>gm h1 fun h18=>gm h2 fun h19=>?_
     obtain ⟨r29,Er29,h⟩:=zb h
     refine gcF [Enc.enc (v28:Int),Enc.enc (x2:Int),Enc.enc (x3:Int)] (zg h17 rfl rfl (zg h18 rfl rfl (zg h19 rfl rfl zF))) (H.c41 _ _ _ _ Er29) H.g41 (g1 20 (jb (!r29)) (rf (jb r29)) fun h21=>gm h21 fun h22=>z6 h (fun hg9 h=>?_) (fun hg9 h=>?_))
     · iterate 3 refine yJ (ct h22 hg9) ?_
       iterate 10 refine Wf rfl ?_
       refine yJ (ct h22 hg9) (g2 22 36 (jb true) (ct h22 hg9) (rf (.tup [])) fun h37=>gq ?_)
       exact MR H x1 x2 x3 x13 (xt F x1 x2 x3 k) ih true _ ⟨h0,h1,h2,h6,h7,h37⟩ h
     refine zo (ct h22 hg9) (gm h7 fun h23=>zo (ct h22 hg9) (g1 23 (jb (decide (x13 > 0))) h23 fun h24=>zo (ct h22 hg9) (gm h24 fun h25=>z6 h (fun hg12 h=>?_) (fun hg12 h=>?_))))
     · refine zo (ct h25 hg12) (gm h0 fun h26=>zo (ct h25 hg12) (gm h7 fun h27=>zo (ct h25 hg12) (g1 27 (ji (w64 (x13 - 1))) h27 fun h28=>?_)))
       obtain ⟨v30,Ev30,h⟩:=zb h
       refine zo (ct h25 hg12) (gv (.ref .sh 0 [] (ji v30)) (yn (t:=.sh) (lo:=0) (xs:=x1) h26 h28 Ev30 rfl rfl) fun h29=>zo (ct h25 hg12) (g1 29 (ji v30) h29 fun h30=>zo (ct h25 hg12) (gm h0 fun h31=>zo (ct h25 hg12) (gm h7 fun h32=>?_))))
       obtain ⟨v31,Ev31,h⟩:=zb h
       refine zo (ct h25 hg12) (gv (.ref .sh 0 [] (ji v31)) (yn (t:=.sh) (lo:=0) (xs:=x1) h31 h32 Ev31 rfl rfl) fun h33=>zo (ct h25 hg12) (g1 33 (ji v31) h33 fun h34=>zo (ct h25 hg12) (g2 30 34 (jb (decide (v30≥v31))) h30 h34 fun h35=>zo (ct h22 hg9) (g2 25 35 (jb (decide (v30≥v31))) (ct h25 hg12) h35 fun h36=>g2 22 36 (jb (decide (v30≥v31))) (ct h22 hg9) h36 fun h37=>gq ?_))))
       exact MR H x1 x2 x3 x13 (xt F x1 x2 x3 k) ih (decide (v30≥v31)) _ ⟨h0,h1,h2,h6,h7,h37⟩ h
     iterate 10 refine yJ (ct h25 hg12) ?_
     refine zo (ct h22 hg9) (g2 25 35 (jb false) (ct h25 hg12) (rf (.tup [])) fun h36=>g2 22 36 (jb false) (ct h22 hg9) h36 fun h37=>gq ?_)
     exact MR H x1 x2 x3 x13 (xt F x1 x2 x3 k) ih false _ ⟨h0,h1,h2,h6,h7,h37⟩ h
   refine .exit (.esq (.elp (.ebk (.nsq (.seq (rg (g0 (jb true) fun h6=>gq (.nsq (.ret ?_)))))))))
   obtain rfl:=oi h
   exact rrA (zl h6) rfl
def Yt (F:Nat) (x1:LI) (x2:Int) (x3:Int):Option Bool:=
 xt F x1 x2 x3 F 0
theorem t82 (H:H82 D σ F) (x1:LI) (x2:Int) (x3:Int) (s:Nat→V) (hs:zr [(0,eL x1),(1,ji x2),(2,ji x3)] s) (h:Yt F x1 x2 x3=some r):Run D σ (R82 r) (.run A82 []) s:=by
 unfold Yt at h
 obtain ⟨h0,h1,h2⟩:=hs
 refine .seq (rg (g0 (jb false) fun h6=>gq (.nsq (.seq (.seq (rg (g0 (ji 0) fun h7=>gq (.nsq (.block (.loop ?_))))))))))
 exact zgz H x1 x2 x3 F 0 _ ⟨h0,h1,h2,h6,h7⟩ h
end
def e82 (F:Nat):Ent:=ent 82 (fun (x:(LI×Int×Int×Unit))=>Yt F x.1 x.2.1 x.2.2.1) (fun (r:Bool)=>(Enc.enc (r:Bool))) 0 false []
abbrev C82 (D:List V→Option V) (F:Nat):Prop:=∀ (x0:LI) (x1:Int) (x2:Int) r,Yt F x0 x1 x2=some r→D [Enc.enc x0,Enc.enc x1,Enc.enc x2]=some (Enc.enc (r:Bool))
theorem p82 {F:Nat}:C82 (e82 F).den F:=fun x0 x1 x2 _ h=>zR (x0,x1,x2,()) h
theorem o82 (hF:zw Try.prog D σ) (H:H82 D σ F):(e82 F).Ok Try.prog:=okZ (f:=82) Try.func82 fun ⟨x0,x1,x2,_⟩ y hy=>cR hF Try.func82 c82 (t82 H x0 x1 x2 _ ⟨rfl,rfl,rfl⟩ hy)
def znW:AC:=(.seq (rr [jm 5 1,jv 6 (.fld (.t 2) 0 0),jl 7 6,jv 8 (.bin .sub (.t 7) (jn 1)),jx 9 (.call (jf 82) [.t 5,jn 0,.t 8]),jm 4 9]) .ret)
def A77:AC:=(.seq (.reg [.clr [2]] [jx 2 (.box (.t 0)),jv 4 (.mov kf)] []) znW)
def ztK:List An:=[⟨0,[.clr [2]],[],[],[]⟩]
theorem c77:cq Try.prog Try.f77 ztK=some A77:=by kernel_rfl
structure H77 (D:Den) (σ:Sig) (F:Nat):Prop where
 c82:C82 (D 82) F
 g82:σ 82=some (0,false)
abbrev R77 (r:Bool):(Nat→V)→Prop:=RR Try.prog [.tmp 4] 0 false (Enc.enc (r:Bool))
section
variable {r:Bool}
def Uc (F:Nat) (x1:GR) (x2:LI):Option Bool:=
 (Yt F x2 0 (w64 (x1.1 - 1))).bind fun r3=>
 some r3
theorem t77 (H:H77 D σ F) (x1:GR) (x2:LI) (s:Nat→V) (hs:zr [(0,gV x1),(1,eL x2)] s) (h:Uc F x1 x2=some r):Run D σ (R77 r) (.run A77 []) s:=by
 unfold Uc at h
 obtain ⟨h0,h1⟩:=hs
 refine .seq (zC (ye ?_))
 refine ez [(0,_),(1,_),(2,_)] ⟨za h0 rfl mIE,za h1 rfl me,ze rfl⟩ ?_
 rintro s ⟨h0,h1,h2⟩
 refine wa (gV x1) (zI h0 rfl) h2 rfl (g0 (jb false) fun h4=>gq (.nsq (.seq (rg (gm h1 fun h5=>g1 2 (.ref (.bx 2) 0 [0] (ji x1.1)) (rf (bG 2 x1)) fun h6=>g1 6 (ji x1.1) h6 fun h7=>g1 7 (ji (w64 (x1.1 - 1))) h7 fun h8=>?_)))))
 obtain ⟨r3,Er3,h⟩:=zb h
 refine gcF [eL x2,Enc.enc (0:Int),Enc.enc (w64 (x1.1 - 1):Int)] (zg h5 rfl (Enc.erase_enc (x2:LI)) (zg (v:=ji 0) rfl rfl rfl (zg h8 rfl rfl zF))) (H.c82 _ _ _ _ Er3) H.g82 (gm (rf (jb r3)) fun h4=>gq (.nsq (.ret ?_)))
 obtain rfl:=oi h
 exact rrA (zl h4) rfl
end
def e77 (F:Nat):Ent:=ent 77 (fun (x:(GR×LI×Unit))=>Uc F x.1 x.2.1) (fun (r:Bool)=>(Enc.enc (r:Bool))) 0 false []
abbrev C77 (D:List V→Option V) (F:Nat):Prop:=∀ (x0:GR) (x1:LI) r,Uc F x0 x1=some r→D [Enc.enc x0,Enc.enc x1]=some (Enc.enc (r:Bool))
theorem p77 {F:Nat}:C77 (e77 F).den F:=fun x0 x1 _ h=>zR (x0,x1,()) h
theorem o77 (hF:zw Try.prog D σ) (H:H77 D σ F):(e77 F).Ok Try.prog:=okZ (f:=77) Try.func77 fun ⟨x0,x1,_⟩ y hy=>cR hF Try.func77 c77 (t77 H x0 x1 _ ⟨rfl,rfl⟩ hy)
def zrI:AC:=(.cond (.t 9) .skip (.exit 0))
def zrn:AC:=(.cond (.t 18) (.seq (rr [jv 4 (.mov kf)]) .ret) .skip)
def zp6:AC:=(rr [jm 10 5,jv 11 (.bin .add (.t 10) (jn 1)),jm 5 11])
def zpj:AC:=(.seq (.block 1 (.seq (rr [jv 12 (.load (.ag [.s,.p]) (.t 2)),jm 13 1,jm 14 5,jv 15 (.idx (.t 13) (.t 14) 1),jv 16 (.load .p (.t 15)),jx 17 (.call (jf 77) [.t 12,.t 16]),jv 18 (.un .not (.t 17))]) zrn)) zp6)
def ziC:AC:=(.seq (.seq (rr [jm 6 5,jm 7 1,jk 8 7,jv 9 (.bin .lss (.t 6) (.t 8))]) zrI) zpj)
def zk1:AC:=(.seq (rr [jm 19 1,jk 20 19,jv 21 (.bin .leq (.t 20) (jn 16)),jm 4 21]) .ret)
def zsh:AC:=(.block 0 (.loop ziC))
def zrO:AC:=(.seq (.seq (rr [jv 5 (.mov (jn 0))]) zsh) zk1)
def A56:AC:=(.seq (.reg [.clr [2]] [jx 2 (.box (.t 0)),jv 4 (.mov kf)] []) zrO)
def zuh:List An:=[⟨0,[.clr [2]],[],[],[]⟩]
theorem c56:cq Try.prog Try.f56 zuh=some A56:=by kernel_rfl
structure H56 (D:Den) (σ:Sig) (F:Nat):Prop where
 c77:C77 (D 77) F
 g77:σ 77=some (0,false)
abbrev R56 (r:Bool):(Nat→V)→Prop:=RR Try.prog [.tmp 4] 0 false (Enc.enc (r:Bool))
section
variable {r:Bool}
def uQ (F:Nat) (x2:(List LI)) (x1:GR) :Nat→Int→Option Bool
 | 0,_=>none
 | k + 1,x5=>
   bif decide (x5 < (x2.length:Int)) then
    (idx x2 x5).bind fun v8=>
    (Uc F x1 v8).bind fun r9=>
    bif (!r9) then
     some false
    else
     (uQ F x2 x1 k) (w64 (x5 + 1))
   else
    some (decide ((x2.length:Int)≤16))
theorem zgP (H:H56 D σ F) (x2:(List LI)) (x1:GR) :∀ (k:Nat) (x5:Int) (s:Nat→V),zr [(1,Enc.enc (x2:List LI)),(2,bG 2 x1),(4,jb false),(5,ji x5)] s→uQ F x2 x1 k x5=some r→Run D σ (R56 r) (.run ziC [.lp ziC,.bk 0,.sq zk1]) s:=by
 intro k
 induction k with
 | zero=>intro x5 s _ h;exact nm h
 | succ k ih=>
   intro x5 s hs h
   rw [uQ] at h
   obtain ⟨h1,h2,h4,h5⟩:=hs
   refine .seq (.seq (rg (gm h5 fun h6=>gm h1 fun h7=>gl x2 h7 fun h8=>g2 6 8 (jb (decide (x5 < (x2.length:Int)))) h6 h8 fun h9=>gq (.nsq (zk h9 h (fun h=>?_) (fun h=>?_))))))
   · refine .skip (.nsq (.seq (.block (.seq (rg (g1 2 (gV x1) h2 fun h12=>gm h1 fun h13=>gm h5 fun h14=>?_))))))
     obtain ⟨v8,Ev8,h⟩:=zb h
     refine gv (.ref .sh 0 [] (eL v8)) (yn (t:=.sh) (lo:=0) (xs:=x2) h13 h14 Ev8 rfl rfl) fun h15=>g1 15 (eL v8) h15 fun h16=>?_
     obtain ⟨r9,Er9,h⟩:=zb h
     refine gcF [Enc.enc (x1:GR),eL v8] (zg h12 rfl (Enc.erase_enc (x1:GR)) (zg h16 rfl (Enc.erase_enc (v8:LI)) zF)) (H.c77 _ _ _ Er9) H.g77 (g1 17 (jb (!r9)) (rf (jb r9)) fun h18=>gq (.nsq (zk h18 h (fun h=>?_) (fun h=>?_))))
     · refine .seq (rg (g0 (jb false) fun h4=>gq (.nsq (.ret ?_))))
       obtain rfl:=oi h
       exact rrA (zl h4) rfl
     refine .skip (.nbk (.nsq (rg (gm h5 fun h10=>g1 10 (ji (w64 (x5 + 1))) h10 fun h11=>gm h11 fun h5=>gq (.nlp ?_)))))
     exact ih (w64 (x5 + 1)) _ ⟨h1,h2,h4,h5⟩ h
   refine .exit (.esq (.elp (.ebk (.nsq (.seq (rg (gm h1 fun h19=>gl x2 h19 fun h20=>g1 20 (jb (decide ((x2.length:Int)≤16))) h20 fun h21=>gm h21 fun h4=>gq (.nsq (.ret ?_)))))))))
   obtain rfl:=oi h
   exact rrA (zl h4) rfl
def Wn (F:Nat) (x1:GR) (x2:(List LI)):Option Bool:=
 uQ F x2 x1 F 0
theorem t56 (H:H56 D σ F) (x1:GR) (x2:(List LI)) (s:Nat→V) (hs:zr [(0,gV x1),(1,Enc.enc (x2:List LI))] s) (h:Wn F x1 x2=some r):Run D σ (R56 r) (.run A56 []) s:=by
 unfold Wn at h
 obtain ⟨h0,h1⟩:=hs
 refine .seq (zC (ye ?_))
 refine ez [(0,_),(1,_),(2,_)] ⟨za h0 rfl mIE,za h1 rfl me,ze rfl⟩ ?_
 rintro s ⟨h0,h1,h2⟩
 refine wa (gV x1) (zI h0 rfl) h2 rfl (g0 (jb false) fun h4=>gq (.nsq (.seq (.seq (rg (g0 (ji 0) fun h5=>gq (.nsq (.block (.loop ?_)))))))))
 exact zgP H x2 x1 F 0 _ ⟨h1,rfl,h4,h5⟩ h
end
def e56 (F:Nat):Ent:=ent 56 (fun (x:(GR×(List LI)×Unit))=>Wn F x.1 x.2.1) (fun (r:Bool)=>(Enc.enc (r:Bool))) 0 false []
abbrev C56 (D:List V→Option V) (F:Nat):Prop:=∀ (x0:GR) (x1:(List LI)) r,Wn F x0 x1=some r→D [Enc.enc x0,Enc.enc x1]=some (Enc.enc (r:Bool))
theorem p56 {F:Nat}:C56 (e56 F).den F:=fun x0 x1 _ h=>zR (x0,x1,()) h
theorem o56 (hF:zw Try.prog D σ) (H:H56 D σ F):(e56 F).Ok Try.prog:=okZ (f:=56) Try.func56 fun ⟨x0,x1,_⟩ y hy=>cR hF Try.func56 c56 (t56 H x0 x1 _ ⟨rfl,rfl⟩ hy)
def zpq:AC:=(.cond (.t 11) .skip (.exit 0))
def zkQ:AC:=(.cond (.t 23) (rr [jm 24 5,jv 25 (.bin .add (.t 24) (jn 1)),jm 5 25]) .skip)
def zg3:AC:=(rr [jm 26 0,jm 27 7,jv 28 (.idx (.t 26) (.t 27) 1),jv 29 (.load .p (.t 28)),jm 30 1,jx 31 (.call (jf 33) [.t 29,.t 30]),jm 6 31])
def zhE:AC:=(rr [jm 12 7,jv 13 (.bin .add (.t 12) (jn 1)),jm 7 13])
def zre:AC:=(.seq (.block 1 (.seq (.seq (rr [jm 14 0,jm 15 7,jv 16 (.idx (.t 14) (.t 15) 1),jv 17 (.load .p (.t 16)),jm 18 1,jx 19 (.call (jf 33) [.t 17,.t 18]),jm 20 19,jg 21 20 true (.mov (.t 6)),jg 22 20 true (.un .not (.t 21)),jv 23 (.pick (.t 20) (.t 22) kf)]) zkQ) zg3)) zhE)
def JO:AC:=(.seq (.seq (rr [jm 8 7,jm 9 0,jk 10 9,jv 11 (.bin .lss (.t 8) (.t 10))]) zpq) zre)
def N2:AC:=(.seq (rr [jm 32 5,jv 33 (.bin .eql (.t 32) (jn 1)),jm 4 33]) .ret)
def zny:AC:=(.block 0 (.loop JO))
def zpe:AC:=(.seq (.seq (rr [jv 7 (.mov (jn 0))]) zny) N2)
def zss:AC:=(.seq (rr [jv 5 (.mov (jn 0)),jv 6 (.mov kf)]) zpe)
def A57:AC:=(.seq (rr [jv 4 (.mov kf)]) zss)
def zuu:List An:=[]
theorem c57:cq Try.prog Try.f57 zuu=some A57:=by kernel_rfl
structure H57 (D:Den) (σ:Sig) (F:Nat):Prop where
 c33:C33 (D 33) F
 g33:σ 33=some (0,false)
abbrev R57 (r:Bool):(Nat→V)→Prop:=RR Try.prog [.tmp 4] 0 false (Enc.enc (r:Bool))
section
variable {r:Bool}
def XT (F:Nat) (x1:(List LI)) (x2:Int) (x12:Bool) (x13:Int) (c1:Int→Bool→Int→Option Bool) (x25:Int):Option Bool:=
 (idx x1 x13).bind fun v26=>
 (uB F v26 x2).bind fun r27=>
 c1 x25 r27 (w64 (x13 + 1))
theorem zbS (H:H57 D σ F) (x1:(List LI)) (x2:Int) (x12:Bool) (x13:Int) (c1:Int→Bool→Int→Option Bool) (Hc1:∀ (x11:Int) (x12:Bool) (x13:Int) (s:Nat→V),zr [(0,Enc.enc (x1:List LI)),(1,ji x2),(4,jb false),(5,ji x11),(6,jb x12),(7,ji x13)] s→c1 x11 x12 x13=some r→Run D σ (R57 r) (.run JO [.lp JO,.bk 0,.sq N2]) s) (x25:Int) (s:Nat→V) (hs:zr [(0,Enc.enc (x1:List LI)),(1,ji x2),(4,jb false),(5,ji x25),(6,jb x12),(7,ji x13)] s) (h:XT F x1 x2 x12 x13 c1 x25=some r):Run D σ (R57 r) (.nrm [.sq zg3,.bk 1,.sq zhE,.lp JO,.bk 0,.sq N2]) s:=by
 unfold XT at h
 obtain ⟨h0,h1,h4,h5,h6,h7⟩:=hs
 refine .nsq (rg (gm h0 fun h26=>gm h7 fun h27=>?_))
 obtain ⟨v26,Ev26,h⟩:=zb h
 refine gv (.ref .sh 0 [] (eL v26)) (yn (t:=.sh) (lo:=0) (xs:=x1) h26 h27 Ev26 rfl rfl) fun h28=>g1 28 (eL v26) h28 fun h29=>gm h1 fun h30=>?_
 obtain ⟨r27,Er27,h⟩:=zb h
 refine gcF [eL v26,Enc.enc (x2:Int)] (zg h29 rfl (Enc.erase_enc (v26:LI)) (zg h30 rfl rfl zF)) (H.c33 _ _ _ Er27) H.g33 (gm (rf (jb r27)) fun h6=>gq (.nbk (.nsq (rg (gm h7 fun h12=>g1 12 (ji (w64 (x13 + 1))) h12 fun h13=>gm h13 fun h7=>gq (.nlp ?_))))))
 exact Hc1 x25 r27 (w64 (x13 + 1)) _ ⟨h0,h1,h4,h5,h6,h7⟩ h
def XH (F:Nat) (x1:(List LI)) (x2:Int) (x11:Int) (x12:Bool) (x13:Int) (c1:Int→Bool→Int→Option Bool) (x24:Bool):Option Bool:=
 bif x24 then
  XT F x1 x2 x12 x13 c1 (w64 (x11 + 1))
 else
  XT F x1 x2 x12 x13 c1 x11
theorem zbO (H:H57 D σ F) (x1:(List LI)) (x2:Int) (x11:Int) (x12:Bool) (x13:Int) (c1:Int→Bool→Int→Option Bool) (Hc1:∀ (x11:Int) (x12:Bool) (x13:Int) (s:Nat→V),zr [(0,Enc.enc (x1:List LI)),(1,ji x2),(4,jb false),(5,ji x11),(6,jb x12),(7,ji x13)] s→c1 x11 x12 x13=some r→Run D σ (R57 r) (.run JO [.lp JO,.bk 0,.sq N2]) s) (x24:Bool) (s:Nat→V) (hs:zr [(0,Enc.enc (x1:List LI)),(1,ji x2),(4,jb false),(5,ji x11),(6,jb x12),(7,ji x13),(23,jb x24)] s) (h:XH F x1 x2 x11 x12 x13 c1 x24=some r):Run D σ (R57 r) (.nrm [.sq zkQ,.sq zg3,.bk 1,.sq zhE,.lp JO,.bk 0,.sq N2]) s:=by
 unfold XH at h
 obtain ⟨h0,h1,h4,h5,h6,h7,h23⟩:=hs
 refine .nsq (zk h23 h (fun h=>?_) (fun h=>?_))
 · refine rg (gm h5 fun h24=>g1 24 (ji (w64 (x11 + 1))) h24 fun h25=>gm h25 fun h5=>gq ?_)
   exact zbS H x1 x2 x12 x13 c1 Hc1 (w64 (x11 + 1)) _ ⟨h0,h1,h4,h5,h6,h7⟩ h
 refine .skip ?_
 exact zbS H x1 x2 x12 x13 c1 Hc1 x11 _ ⟨h0,h1,h4,h5,h6,h7⟩ h
def vM (F:Nat) (x1:(List LI)) (x2:Int) :Nat→Int→Bool→Int→Option Bool
 | 0,_,_,_=>none
 | k + 1,x11,x12,x13=>
   bif decide (x13 < (x1.length:Int)) then
    (idx x1 x13).bind fun v28=>
    (uB F v28 x2).bind fun r29=>
    bif r29 then
     XH F x1 x2 x11 x12 x13 (vM F x1 x2 k) (!x12)
    else
     XH F x1 x2 x11 x12 x13 (vM F x1 x2 k) false
   else
    some (x11 == 1)
theorem zis (H:H57 D σ F) (x1:(List LI)) (x2:Int) :∀ (k:Nat) (x11:Int) (x12:Bool) (x13:Int) (s:Nat→V),zr [(0,Enc.enc (x1:List LI)),(1,ji x2),(4,jb false),(5,ji x11),(6,jb x12),(7,ji x13)] s→vM F x1 x2 k x11 x12 x13=some r→Run D σ (R57 r) (.run JO [.lp JO,.bk 0,.sq N2]) s:=by
 intro k
 induction k with
 | zero=>intro x11 x12 x13 s _ h;exact nm h
 | succ k ih=>
   intro x11 x12 x13 s hs h
   rw [vM] at h
   obtain ⟨h0,h1,h4,h5,h6,h7⟩:=hs
   refine .seq (.seq (rg (gm h7 fun h8=>gm h0 fun h9=>gl x1 h9 fun h10=>g2 8 10 (jb (decide (x13 < (x1.length:Int)))) h8 h10 fun h11=>gq (.nsq (zk h11 h (fun h=>?_) (fun h=>?_))))))
   · refine .skip (.nsq (.seq (.block (.seq (.seq (rg (gm h0 fun h14=>gm h7 fun h15=>?_)))))))
     obtain ⟨v28,Ev28,h⟩:=zb h
     refine gv (.ref .sh 0 [] (eL v28)) (yn (t:=.sh) (lo:=0) (xs:=x1) h14 h15 Ev28 rfl rfl) fun h16=>g1 16 (eL v28) h16 fun h17=>gm h1 fun h18=>?_
     obtain ⟨r29,Er29,h⟩:=zb h
     refine gcF [eL v28,Enc.enc (x2:Int)] (zg h17 rfl (Enc.erase_enc (v28:LI)) (zg h18 rfl rfl zF)) (H.c33 _ _ _ Er29) H.g33 (gm (rf (jb r29)) fun h20=>z6 h (fun hg7 h=>?_) (fun hg7 h=>?_))
     · refine zo (ct h20 hg7) (gm h6 fun h21=>zo (ct h20 hg7) (g1 21 (jb (!x12)) h21 fun h22=>g2 20 22 (jb (!x12)) (ct h20 hg7) h22 fun h23=>gq ?_))
       exact zbO H x1 x2 x11 x12 x13 (vM F x1 x2 k) ih (!x12) _ ⟨h0,h1,h4,h5,h6,h7,h23⟩ h
     iterate 2 refine yJ (ct h20 hg7) ?_
     refine g2 20 22 (jb false) (ct h20 hg7) (rf (.tup [])) fun h23=>gq ?_
     exact zbO H x1 x2 x11 x12 x13 (vM F x1 x2 k) ih false _ ⟨h0,h1,h4,h5,h6,h7,h23⟩ h
   refine .exit (.esq (.elp (.ebk (.nsq (.seq (rg (gm h5 fun h32=>g1 32 (jb (x11 == 1)) h32 fun h33=>gm h33 fun h4=>gq (.nsq (.ret ?_)))))))))
   obtain rfl:=oi h
   exact rrA (zl h4) rfl
def WY (F:Nat) (x1:(List LI)) (x2:Int):Option Bool:=
 vM F x1 x2 F 0 false 0
theorem t57 (H:H57 D σ F) (x1:(List LI)) (x2:Int) (s:Nat→V) (hs:zr [(0,Enc.enc (x1:List LI)),(1,ji x2)] s) (h:WY F x1 x2=some r):Run D σ (R57 r) (.run A57 []) s:=by
 unfold WY at h
 obtain ⟨h0,h1⟩:=hs
 refine .seq (rg (g0 (jb false) fun h4=>gq (.nsq (.seq (rg (g0 (ji 0) fun h5=>g0 (jb false) fun h6=>gq (.nsq (.seq (.seq (rg (g0 (ji 0) fun h7=>gq (.nsq (.block (.loop ?_))))))))))))))
 exact zis H x1 x2 F 0 false 0 _ ⟨h0,h1,h4,h5,h6,h7⟩ h
end
def e57 (F:Nat):Ent:=ent 57 (fun (x:((List LI)×Int×Unit))=>WY F x.1 x.2.1) (fun (r:Bool)=>(Enc.enc (r:Bool))) 0 false []
abbrev C57 (D:List V→Option V) (F:Nat):Prop:=∀ (x0:(List LI)) (x1:Int) r,WY F x0 x1=some r→D [Enc.enc x0,Enc.enc x1]=some (Enc.enc (r:Bool))
theorem p57 {F:Nat}:C57 (e57 F).den F:=fun x0 x1 _ h=>zR (x0,x1,()) h
theorem o57 (hF:zw Try.prog D σ) (H:H57 D σ F):(e57 F).Ok Try.prog:=okZ (f:=57) Try.func57 fun ⟨x0,x1,_⟩ y hy=>cR hF Try.func57 c57 (t57 H x0 x1 _ ⟨rfl,rfl⟩ hy)
def znH:AC:=(.cond (.t 11) .skip (.exit 0))
def zlb:AC:=(.cond (.t 27) (.seq (rr [jv 6 (.mov kt)]) .ret) .skip)
def zkF:AC:=(rr [jm 12 7,jv 13 (.bin .add (.t 12) (jn 1)),jm 7 13])
def zsD:AC:=(.seq (.block 1 (.seq (rr [jm 14 0,jm 15 7,jv 16 (.idx (.t 14) (.t 15) 1),jv 17 (.load .p (.t 16)),jm 18 1,jx 19 (.call (jf 33) [.t 17,.t 18]),jm 20 19,jg 21 20 true (.mov (.t 0)),jg 22 20 true (.mov (.t 7)),jg 23 20 true (.idx (.t 21) (.t 22) 1),jg 24 20 true (.load .p (.t 23)),jg 25 20 true (.mov (.t 2)),.mk (some 26) (some (20,true)) false (.call (jf 33) [.t 24,.t 25]),jv 27 (.pick (.t 20) (.t 26) kf)]) zlb)) zkF)
def N1:AC:=(.seq (.seq (rr [jm 8 7,jm 9 0,jk 10 9,jv 11 (.bin .lss (.t 8) (.t 10))]) znH) zsD)
def zdQ:AC:=(.seq (rr [jv 6 (.mov kf)]) .ret)
def zqk:AC:=(.block 0 (.loop N1))
def zsm:AC:=(.seq (.seq (rr [jv 7 (.mov (jn 0))]) zqk) zdQ)
def A58:AC:=(.seq (rr [jv 6 (.mov kf)]) zsm)
def ztu:List An:=[]
theorem c58:cq Try.prog Try.f58 ztu=some A58:=by kernel_rfl
structure H58 (D:Den) (σ:Sig) (F:Nat):Prop where
 c33:C33 (D 33) F
 g33:σ 33=some (0,false)
abbrev R58 (r:Bool):(Nat→V)→Prop:=RR Try.prog [.tmp 6] 0 false (Enc.enc (r:Bool))
section
variable {r:Bool}
def ul (F:Nat) (x1:(List LI)) (x2:Int) (x3:Int) (x13:Int) (c1:Int→Option Bool) (x27:Bool):Option Bool:=
 bif x27 then
  some true
 else
  c1 (w64 (x13 + 1))
theorem zbd (H:H58 D σ F) (x1:(List LI)) (x2:Int) (x3:Int) (x13:Int) (c1:Int→Option Bool) (Hc1:∀ (x13:Int) (s:Nat→V),zr [(0,Enc.enc (x1:List LI)),(1,ji x2),(2,ji x3),(6,jb false),(7,ji x13)] s→c1 x13=some r→Run D σ (R58 r) (.run N1 [.lp N1,.bk 0,.sq zdQ]) s) (x27:Bool) (s:Nat→V) (hs:zr [(0,Enc.enc (x1:List LI)),(1,ji x2),(2,ji x3),(6,jb false),(7,ji x13),(27,jb x27)] s) (h:ul F x1 x2 x3 x13 c1 x27=some r):Run D σ (R58 r) (.nrm [.sq zlb,.bk 1,.sq zkF,.lp N1,.bk 0,.sq zdQ]) s:=by
 unfold ul at h
 obtain ⟨h0,h1,h2,h6,h7,h27⟩:=hs
 refine .nsq (zk h27 h (fun h=>?_) (fun h=>?_))
 · refine .seq (rg (g0 (jb true) fun h6=>gq (.nsq (.ret ?_))))
   obtain rfl:=oi h
   exact rrA (zl h6) rfl
 refine .skip (.nbk (.nsq (rg (gm h7 fun h12=>g1 12 (ji (w64 (x13 + 1))) h12 fun h13=>gm h13 fun h7=>gq (.nlp ?_)))))
 exact Hc1 (w64 (x13 + 1)) _ ⟨h0,h1,h2,h6,h7⟩ h
def xv (F:Nat) (x1:(List LI)) (x2:Int) (x3:Int) :Nat→Int→Option Bool
 | 0,_=>none
 | k + 1,x13=>
   bif decide (x13 < (x1.length:Int)) then
    (idx x1 x13).bind fun v28=>
    (uB F v28 x2).bind fun r29=>
    bif r29 then
     (idx x1 x13).bind fun v30=>
     (uB F v30 x3).bind fun r31=>
     ul F x1 x2 x3 x13 (xv F x1 x2 x3 k) r31
    else
     ul F x1 x2 x3 x13 (xv F x1 x2 x3 k) false
   else
    some false
theorem zgm (H:H58 D σ F) (x1:(List LI)) (x2:Int) (x3:Int) :∀ (k:Nat) (x13:Int) (s:Nat→V),zr [(0,Enc.enc (x1:List LI)),(1,ji x2),(2,ji x3),(6,jb false),(7,ji x13)] s→xv F x1 x2 x3 k x13=some r→Run D σ (R58 r) (.run N1 [.lp N1,.bk 0,.sq zdQ]) s:=by
 intro k
 induction k with
 | zero=>intro x13 s _ h;exact nm h
 | succ k ih=>
   intro x13 s hs h
   rw [xv] at h
   obtain ⟨h0,h1,h2,h6,h7⟩:=hs
   refine .seq (.seq (rg (gm h7 fun h8=>gm h0 fun h9=>gl x1 h9 fun h10=>g2 8 10 (jb (decide (x13 < (x1.length:Int)))) h8 h10 fun h11=>gq (.nsq (zk h11 h (fun h=>?_) (fun h=>?_))))))
   · refine .skip (.nsq (.seq (.block (.seq (rg (gm h0 fun h14=>gm h7 fun h15=>?_))))))
     obtain ⟨v28,Ev28,h⟩:=zb h
     refine gv (.ref .sh 0 [] (eL v28)) (yn (t:=.sh) (lo:=0) (xs:=x1) h14 h15 Ev28 rfl rfl) fun h16=>g1 16 (eL v28) h16 fun h17=>gm h1 fun h18=>?_
     obtain ⟨r29,Er29,h⟩:=zb h
     refine gcF [eL v28,Enc.enc (x2:Int)] (zg h17 rfl (Enc.erase_enc (v28:LI)) (zg h18 rfl rfl zF)) (H.c33 _ _ _ Er29) H.g33 (gm (rf (jb r29)) fun h20=>z6 h (fun hg7 h=>?_) (fun hg7 h=>?_))
     · refine zo (ct h20 hg7) (gm h0 fun h21=>zo (ct h20 hg7) (gm h7 fun h22=>?_))
       obtain ⟨v30,Ev30,h⟩:=zb h
       refine zo (ct h20 hg7) (gv (.ref .sh 0 [] (eL v30)) (yn (t:=.sh) (lo:=0) (xs:=x1) h21 h22 Ev30 rfl rfl) fun h23=>zo (ct h20 hg7) (g1 23 (eL v30) h23 fun h24=>zo (ct h20 hg7) (gm h2 fun h25=>?_)))
       obtain ⟨r31,Er31,h⟩:=zb h
       refine zo (ct h20 hg7) (gcF [eL v30,Enc.enc (x3:Int)] (zg h24 rfl (Enc.erase_enc (v30:LI)) (zg h25 rfl rfl zF)) (H.c33 _ _ _ Er31) H.g33 (g2 20 26 (jb r31) (ct h20 hg7) (rf (jb r31)) fun h27=>gq ?_))
       exact zbd H x1 x2 x3 x13 (xv F x1 x2 x3 k) ih r31 _ ⟨h0,h1,h2,h6,h7,h27⟩ h
     iterate 6 refine yJ (ct h20 hg7) ?_
     refine g2 20 26 (jb false) (ct h20 hg7) (rf (.tup [])) fun h27=>gq ?_
     exact zbd H x1 x2 x3 x13 (xv F x1 x2 x3 k) ih false _ ⟨h0,h1,h2,h6,h7,h27⟩ h
   refine .exit (.esq (.elp (.ebk (.nsq (.seq (rg (g0 (jb false) fun h6=>gq (.nsq (.ret ?_)))))))))
   obtain rfl:=oi h
   exact rrA (zl h6) rfl
def ue (F:Nat) (x1:(List LI)) (x2:Int) (x3:Int):Option Bool:=
 xv F x1 x2 x3 F 0
theorem t58 (H:H58 D σ F) (x1:(List LI)) (x2:Int) (x3:Int) (s:Nat→V) (hs:zr [(0,Enc.enc (x1:List LI)),(1,ji x2),(2,ji x3)] s) (h:ue F x1 x2 x3=some r):Run D σ (R58 r) (.run A58 []) s:=by
 unfold ue at h
 obtain ⟨h0,h1,h2⟩:=hs
 refine .seq (rg (g0 (jb false) fun h6=>gq (.nsq (.seq (.seq (rg (g0 (ji 0) fun h7=>gq (.nsq (.block (.loop ?_))))))))))
 exact zgm H x1 x2 x3 F 0 _ ⟨h0,h1,h2,h6,h7⟩ h
end
def e58 (F:Nat):Ent:=ent 58 (fun (x:((List LI)×Int×Int×Unit))=>ue F x.1 x.2.1 x.2.2.1) (fun (r:Bool)=>(Enc.enc (r:Bool))) 0 false []
abbrev C58 (D:List V→Option V) (F:Nat):Prop:=∀ (x0:(List LI)) (x1:Int) (x2:Int) r,ue F x0 x1 x2=some r→D [Enc.enc x0,Enc.enc x1,Enc.enc x2]=some (Enc.enc (r:Bool))
theorem p58 {F:Nat}:C58 (e58 F).den F:=fun x0 x1 x2 _ h=>zR (x0,x1,x2,()) h
theorem o58 (hF:zw Try.prog D σ) (H:H58 D σ F):(e58 F).Ok Try.prog:=okZ (f:=58) Try.func58 fun ⟨x0,x1,x2,_⟩ y hy=>cR hF Try.func58 c58 (t58 H x0 x1 x2 _ ⟨rfl,rfl,rfl⟩ hy)
def znM:AC:=(.cond (.t 25) .skip (.exit 2))
def zqX:AC:=(.cond (.t 42) (.seq (rr [jv 4 (.mov kf)]) .ret) .skip)
def zsl:AC:=(rr [jm 26 6,jv 27 (.bin .add (.t 26) (jn 1)),jm 6 27])
def znP:AC:=(.seq (.block 3 (.seq (rr [jm 28 1,jv 29 (.fld (.t 2) 1 1),jv 30 (.load .p (.t 29)),jm 31 6,jv 32 (.idx (.t 30) (.t 31) 2),jv 33 (.idxA (.t 32) (jn 0) 2 1),jl 34 33,jv 35 (.fld (.t 2) 1 1),jv 36 (.load .p (.t 35)),jm 37 6,jv 38 (.idx (.t 36) (.t 37) 2),jv 39 (.idxA (.t 38) (jn 1) 2 1),jl 40 39,jx 41 (.call (jf 58) [.t 28,.t 34,.t 40]),jv 42 (.un .not (.t 41))]) zqX)) zsl)
def zhC:AC:=(.seq (.seq (rr [jm 21 6,jv 22 (.fld (.t 2) 1 1),jv 23 (.load .p (.t 22)),jk 24 23,jv 25 (.bin .lss (.t 21) (.t 24))]) znM) znP)
def zkK:AC:=(.seq (rr [jv 4 (.mov kt)]) .ret)
def zpJ:AC:=(.cond (.t 14) .skip (.exit 0))
def zlw:AC:=(.cond (.t 20) (.seq (rr [jv 4 (.mov kf)]) .ret) .skip)
def zl9:AC:=(rr [jm 15 5,jv 16 (.bin .add (.t 15) (jn 1)),jm 5 16])
def zog:AC:=(.seq (.block 1 (.seq (rr [jm 17 1,jm 18 5,jx 19 (.call (jf 57) [.t 17,.t 18]),jv 20 (.un .not (.t 19))]) zlw)) zl9)
def ziD:AC:=(.seq (.seq (rr [jm 11 5,jv 12 (.fld (.t 2) 0 0),jl 13 12,jv 14 (.bin .lss (.t 11) (.t 13))]) zpJ) zog)
def znD:AC:=(.block 2 (.loop zhC))
def zhW:AC:=(.seq (.seq (rr [jv 6 (.mov (jn 0))]) znD) zkK)
def zns:AC:=(.cond (.t 10) (.seq (rr [jv 4 (.mov kf)]) .ret) .skip)
def zlL:AC:=(.block 0 (.loop ziD))
def znE:AC:=(.seq (.seq (rr [jv 5 (.mov (jn 0))]) zlL) zhW)
def zna:AC:=(.seq (.seq (rr [jv 7 (.load (.ag [.s,.p]) (.t 2)),jm 8 1,jx 9 (.call (jf 56) [.t 7,.t 8]),jv 10 (.un .not (.t 9))]) zns) znE)
def A31:AC:=(.seq (.reg [.clr [2]] [jx 2 (.box (.t 0)),jv 4 (.mov kf)] []) zna)
def ztH:List An:=[⟨0,[.clr [2]],[],[],[]⟩]
theorem c31:cq Try.prog Try.f31 ztH=some A31:=by kernel_rfl
structure H31 (D:Den) (σ:Sig) (F:Nat):Prop where
 c56:C56 (D 56) F
 g56:σ 56=some (0,false)
 c57:C57 (D 57) F
 g57:σ 57=some (0,false)
 c58:C58 (D 58) F
 g58:σ 58=some (0,false)
abbrev R31 (r:Bool):(Nat→V)→Prop:=RR Try.prog [.tmp 4] 0 false (Enc.enc (r:Bool))
section
variable {r:Bool}
def xC (F:Nat) (x2:(List LI)) (x1:GR) :Nat→Int→Option Bool
 | 0,_=>none
 | k + 1,x11=>
   bif decide (x11 < (x1.2.length:Int)) then
    (idx x1.2 x11).bind fun v15=>
    (idx x1.2 x11).bind fun v16=>
    (ue F x2 v15.1 v16.2).bind fun r17=>
    bif (!r17) then
     some false
    else
     (xC F x2 x1 k) (w64 (x11 + 1))
   else
    some true
theorem zgD (H:H31 D σ F) (x2:(List LI)) (x1:GR) :∀ (k:Nat) (x11:Int) (s:Nat→V),zr [(1,Enc.enc (x2:List LI)),(2,bG 2 x1),(4,jb false),(6,ji x11)] s→xC F x2 x1 k x11=some r→Run D σ (R31 r) (.run zhC [.lp zhC,.bk 2,.sq zkK]) s:=by
 intro k
 induction k with
 | zero=>intro x11 s _ h;exact nm h
 | succ k ih=>
   intro x11 s hs h
   rw [xC] at h
   obtain ⟨h1,h2,h4,h6⟩:=hs
   refine .seq (.seq (rg (gm h6 fun h21=>g1 2 (.ref (.bx 2) 0 [1] (eP x1.2)) h2 fun h22=>g1 22 (eP x1.2) h22 fun h23=>gl x1.2 h23 fun h24=>g2 21 24 (jb (decide (x11 < (x1.2.length:Int)))) h21 h24 fun h25=>gq (.nsq (zk h25 h (fun h=>?_) (fun h=>?_))))))
   · refine .skip (.nsq (.seq (.block (.seq (rg (gm h1 fun h28=>g1 2 (.ref (.bx 2) 0 [1] (eP x1.2)) h2 fun h29=>g1 29 (eP x1.2) h29 fun h30=>gm h6 fun h31=>?_))))))
     obtain ⟨v15,Ev15,h⟩:=zb h
     refine gv (.ref .sh 0 [] (.agg [ji v15.1,ji v15.2])) (yn (t:=.sh) (lo:=0) (xs:=x1.2) h30 h31 Ev15 rfl rfl) fun h32=>g1 32 (.ref .sh 0 [0] (ji v15.1)) h32 fun h33=>g1 33 (ji v15.1) h33 fun h34=>g1 2 (.ref (.bx 2) 0 [1] (eP x1.2)) h2 fun h35=>g1 35 (eP x1.2) h35 fun h36=>gm h6 fun h37=>?_
     obtain ⟨v16,Ev16,h⟩:=zb h
     refine gv (.ref .sh 0 [] (.agg [ji v16.1,ji v16.2])) (yn (t:=.sh) (lo:=0) (xs:=x1.2) h36 h37 Ev16 rfl rfl) fun h38=>g1 38 (.ref .sh 0 [1] (ji v16.2)) h38 fun h39=>g1 39 (ji v16.2) h39 fun h40=>?_
     obtain ⟨r17,Er17,h⟩:=zb h
     refine gcF [Enc.enc (x2:(List LI)),Enc.enc (v15.1:Int),Enc.enc (v16.2:Int)] (zg h28 rfl (Enc.erase_enc (x2:(List LI))) (zg h34 rfl rfl (zg h40 rfl rfl zF))) (H.c58 _ _ _ _ Er17) H.g58 (g1 41 (jb (!r17)) (rf (jb r17)) fun h42=>gz [(1,_),(2,_),(4,_),(6,_),(42,_)] ⟨h1,h2,h4,h6,h42⟩ ?_)
     rintro s ⟨h1,h2,h4,h6,h42⟩
     refine .nsq (zk h42 h (fun h=>?_) (fun h=>?_))
     · refine .seq (rg (g0 (jb false) fun h4=>gq (.nsq (.ret ?_))))
       obtain rfl:=oi h
       exact rrA (zl h4) rfl
     refine .skip (.nbk (.nsq (rg (gm h6 fun h26=>g1 26 (ji (w64 (x11 + 1))) h26 fun h27=>gm h27 fun h6=>gq (.nlp ?_)))))
     exact ih (w64 (x11 + 1)) _ ⟨h1,h2,h4,h6⟩ h
   refine .exit (.esq (.elp (.ebk (.nsq (.seq (rg (g0 (jb true) fun h4=>gq (.nsq (.ret ?_)))))))))
   obtain rfl:=oi h
   exact rrA (zl h4) rfl
def xX (F:Nat) (x2:(List LI)) (x1:GR) :Nat→Int→Option Bool
 | 0,_=>none
 | k + 1,x5=>
   bif decide (x5 < x1.1) then
    (WY F x2 x5).bind fun r7=>
    bif (!r7) then
     some false
    else
     (xX F x2 x1 k) (w64 (x5 + 1))
   else
    xC F x2 x1 F 0
theorem zgU (H:H31 D σ F) (x2:(List LI)) (x1:GR) :∀ (k:Nat) (x5:Int) (s:Nat→V),zr [(1,Enc.enc (x2:List LI)),(2,bG 2 x1),(4,jb false),(5,ji x5)] s→xX F x2 x1 k x5=some r→Run D σ (R31 r) (.run ziD [.lp ziD,.bk 0,.sq zhW]) s:=by
 intro k
 induction k with
 | zero=>intro x5 s _ h;exact nm h
 | succ k ih=>
   intro x5 s hs h
   rw [xX] at h
   obtain ⟨h1,h2,h4,h5⟩:=hs
   refine .seq (.seq (rg (gm h5 fun h11=>g1 2 (.ref (.bx 2) 0 [0] (ji x1.1)) h2 fun h12=>g1 12 (ji x1.1) h12 fun h13=>g2 11 13 (jb (decide (x5 < x1.1))) h11 h13 fun h14=>gq (.nsq (zk h14 h (fun h=>?_) (fun h=>?_))))))
   · refine .skip (.nsq (.seq (.block (.seq (rg (gm h1 fun h17=>gm h5 fun h18=>?_))))))
     obtain ⟨r7,Er7,h⟩:=zb h
     refine gcF [Enc.enc (x2:(List LI)),Enc.enc (x5:Int)] (zg h17 rfl (Enc.erase_enc (x2:(List LI))) (zg h18 rfl rfl zF)) (H.c57 _ _ _ Er7) H.g57 (g1 19 (jb (!r7)) (rf (jb r7)) fun h20=>gq (.nsq (zk h20 h (fun h=>?_) (fun h=>?_))))
     · refine .seq (rg (g0 (jb false) fun h4=>gq (.nsq (.ret ?_))))
       obtain rfl:=oi h
       exact rrA (zl h4) rfl
     refine .skip (.nbk (.nsq (rg (gm h5 fun h15=>g1 15 (ji (w64 (x5 + 1))) h15 fun h16=>gm h16 fun h5=>gq (.nlp ?_)))))
     exact ih (w64 (x5 + 1)) _ ⟨h1,h2,h4,h5⟩ h
   refine .exit (.esq (.elp (.ebk (.nsq (.seq (.seq (rg (g0 (ji 0) fun h6=>gq (.nsq (.block (.loop ?_)))))))))))
   exact zgD H x2 x1 F 0 _ ⟨h1,h2,h4,h6⟩ h
def wG (F:Nat) (x1:GR) (x2:(List LI)):Option Bool:=
 (Wn F x1 x2).bind fun r3=>
 bif (!r3) then
  some false
 else
  xX F x2 x1 F 0
theorem t31 (H:H31 D σ F) (x1:GR) (x2:(List LI)) (s:Nat→V) (hs:zr [(0,gV x1),(1,Enc.enc (x2:List LI))] s) (h:wG F x1 x2=some r):Run D σ (R31 r) (.run A31 []) s:=by
 unfold wG at h
 obtain ⟨h0,h1⟩:=hs
 refine .seq (zC (ye ?_))
 refine ez [(0,_),(1,_),(2,_)] ⟨za h0 rfl mIE,za h1 rfl me,ze rfl⟩ ?_
 rintro s ⟨h0,h1,h2⟩
 refine wa (gV x1) (zI h0 rfl) h2 rfl (g0 (jb false) fun h4=>gq (.nsq (.seq (.seq (rg (g1 2 (gV x1) (rf (bG 2 x1)) fun h7=>gm h1 fun h8=>?_))))))
 obtain ⟨r3,Er3,h⟩:=zb h
 refine gcF [Enc.enc (x1:GR),Enc.enc (x2:(List LI))] (zg h7 rfl (Enc.erase_enc (x1:GR)) (zg h8 rfl (Enc.erase_enc (x2:(List LI))) zF)) (H.c56 _ _ _ Er3) H.g56 (g1 9 (jb (!r3)) (rf (jb r3)) fun h10=>gq (.nsq (zk h10 h (fun h=>?_) (fun h=>?_))))
 · refine .seq (rg (g0 (jb false) fun h4=>gq (.nsq (.ret ?_))))
   obtain rfl:=oi h
   exact rrA (zl h4) rfl
 refine .skip (.nsq (.seq (.seq (rg (g0 (ji 0) fun h5=>gq (.nsq (.block (.loop ?_))))))))
 exact zgU H x2 x1 F 0 _ ⟨h1,rfl,h4,h5⟩ h
end
def e31 (F:Nat):Ent:=ent 31 (fun (x:(GR×(List LI)×Unit))=>wG F x.1 x.2.1) (fun (r:Bool)=>(Enc.enc (r:Bool))) 0 false []
abbrev C31 (D:List V→Option V) (F:Nat):Prop:=∀ (x0:GR) (x1:(List LI)) r,wG F x0 x1=some r→D [Enc.enc x0,Enc.enc x1]=some (Enc.enc (r:Bool))
theorem p31 {F:Nat}:C31 (e31 F).den F:=fun x0 x1 _ h=>zR (x0,x1,()) h
theorem o31 (hF:zw Try.prog D σ) (H:H31 D σ F):(e31 F).Ok Try.prog:=okZ (f:=31) Try.func31 fun ⟨x0,x1,_⟩ y hy=>cR hF Try.func31 c31 (t31 H x0 x1 _ ⟨rfl,rfl⟩ hy)
def zpo:AC:=(.cond (.t 8) (.seq (rr [jv 4 (.mov kf),jv 5 (.mov kf)]) .ret) .skip)
def zo1:AC:=(.seq (rr [jv 9 (.load (.ag [.s,.p]) (.t 2)),jm 10 1,jx 11 (.call (jf 31) [.t 9,.t 10]),jm 4 11,jv 5 (.mov kt)]) .ret)
def zr7:AC:=(.seq (.seq (rr [jv 6 (.load (.ag [.s,.p]) (.t 2)),jx 7 (.call (jf 25) [.t 6]),jv 8 (.un .not (.t 7))]) zpo) zo1)
def A11:AC:=(.seq (.reg [.clr [2]] [jx 2 (.box (.t 0)),jv 4 (.mov kf),jv 5 (.mov kf)] []) zr7)
def zug:List An:=[⟨0,[.clr [2]],[],[],[]⟩]
theorem c11:cq Try.prog Try.f11 zug=some A11:=by kernel_rfl
structure H11 (D:Den) (σ:Sig) (F:Nat):Prop where
 c25:C25 (D 25) F
 g25:σ 25=some (0,false)
 c31:C31 (D 31) F
 g31:σ 31=some (0,false)
abbrev R11 (r:(Bool×Bool)):(Nat→V)→Prop:=RR Try.prog [.tmp 4,.tmp 5] 0 false (.tup [Enc.enc (r.1:Bool),Enc.enc (r.2:Bool)])
section
variable {r:(Bool×Bool)}
def yZ (F:Nat) (x1:GR) (x2:(List LI)):Option (Bool×Bool):=
 (uG F x1).bind fun r3=>
 bif (!r3) then
  some (false,false)
 else
  (wG F x1 x2).bind fun r4=>
  some (r4,true)
theorem t11 (H:H11 D σ F) (x1:GR) (x2:(List LI)) (s:Nat→V) (hs:zr [(0,gV x1),(1,Enc.enc (x2:List LI))] s) (h:yZ F x1 x2=some r):Run D σ (R11 r) (.run A11 []) s:=by
 unfold yZ at h
 obtain ⟨h0,h1⟩:=hs
 refine .seq (zC (ye ?_))
 refine ez [(0,_),(1,_),(2,_)] ⟨za h0 rfl mIE,za h1 rfl me,ze rfl⟩ ?_
 rintro s ⟨h0,h1,h2⟩
 refine wa (gV x1) (zI h0 rfl) h2 rfl (g0 (jb false) fun h4=>g0 (jb false) fun h5=>gq (.nsq (.seq (.seq (rg (g1 2 (gV x1) (rf (bG 2 x1)) fun h6=>?_))))))
 obtain ⟨r3,Er3,h⟩:=zb h
 refine gcF [Enc.enc (x1:GR)] (zg h6 rfl (Enc.erase_enc (x1:GR)) zF) (H.c25 _ _ Er3) H.g25 (g1 7 (jb (!r3)) (rf (jb r3)) fun h8=>gq (.nsq (zk h8 h (fun h=>?_) (fun h=>?_))))
 · refine .seq (rg (g0 (jb false) fun h4=>g0 (jb false) fun h5=>gq (.nsq (.ret ?_))))
   obtain rfl:=oi h
   exact rrB (zl h4) (zl h5) rfl
 refine .skip (.nsq (.seq (rg (g1 2 (gV x1) (rf (bG 2 x1)) fun h9=>gm h1 fun h10=>?_))))
 obtain ⟨r4,Er4,h⟩:=zb h
 refine gcF [Enc.enc (x1:GR),Enc.enc (x2:(List LI))] (zg h9 rfl (Enc.erase_enc (x1:GR)) (zg h10 rfl (Enc.erase_enc (x2:(List LI))) zF)) (H.c31 _ _ _ Er4) H.g31 (gm (rf (jb r4)) fun h4=>g0 (jb true) fun h5=>gq (.nsq (.ret ?_)))
 obtain rfl:=oi h
 exact rrB (zl h4) (zl h5) rfl
end
def e11 (F:Nat):Ent:=ent 11 (fun (x:(GR×(List LI)×Unit))=>yZ F x.1 x.2.1) (fun (r:(Bool×Bool))=>(.tup [Enc.enc (r.1:Bool),Enc.enc (r.2:Bool)])) 0 false []
abbrev C11 (D:List V→Option V) (F:Nat):Prop:=∀ (x0:GR) (x1:(List LI)) r,yZ F x0 x1=some r→D [Enc.enc x0,Enc.enc x1]=some (.tup [Enc.enc (r.1:Bool),Enc.enc (r.2:Bool)])
theorem p11 {F:Nat}:C11 (e11 F).den F:=fun x0 x1 _ h=>zR (x0,x1,()) h
theorem o11 (hF:zw Try.prog D σ) (H:H11 D σ F):(e11 F).Ok Try.prog:=okZ (f:=11) Try.func11 fun ⟨x0,x1,_⟩ y hy=>cR hF Try.func11 c11 (t11 H x0 x1 _ ⟨rfl,rfl⟩ hy)
def zlC:AC:=(.cond (.t 35) (.reg [.clr [38,39]] [jm 36 6,jm 37 10,jx 38 (.lit i0 1 [(0,0,.t 37)]),jx 39 (.app .s (.t 36) (.t 38)),jm 6 39] [.home 39 6]) .skip)
def zpl:AC:=(.seq (rr [jm 32 6,jm 33 10,jx 34 (.call (jf 32) [.t 32,.t 33]),jv 35 (.un .not (.t 34))]) zlC)
def zhS:AC:=(rr [jv 40 (.bin .add (.t 28) (jn 1)),jm 28 40])
def zrk:AC:=(.seq (.block 3 (.seq (rr [jv 30 (.idx (.t 26) (.t 28) 1),jl 31 30,jm 10 31]) zpl)) zhS)
def zsO:AC:=(.seq (.cond (.t 29) .skip (.exit 2)) zrk)
def Ni:AC:=(.seq (rr [jv 29 (.bin .lss (.t 28) (.t 27))]) zsO)
def zoD:AC:=(.block 2 (.loop Ni))
def zoW:AC:=(.seq (rr [jm 26 8,jk 27 26,jv 28 (.mov (jn 0))]) zoD)
def Qn:AC:=(rr [jv 41 (.bin .add (.t 22) (jn 1)),jm 22 41])
def znN:AC:=(.seq (.block 1 (.seq (rr [jv 24 (.idx (.t 20) (.t 22) 1),jv 25 (.load .p (.t 24)),jm 8 25]) zoW)) Qn)
def zrm:AC:=(.seq (.cond (.t 23) .skip (.exit 0)) znN)
def Jo:AC:=(.seq (rr [jv 23 (.bin .lss (.t 22) (.t 21))]) zrm)
def JF:AC:=(.seq (.reg [] [jm 42 6,jm 4 42,jv 5 (.mov kt)] [.home 6 4]) .ret)
def zhM:AC:=(.cond (.t 19) (.seq (rr [jv 4 (.mov (.k (.sl .nl .s 0 []))),jv 5 (.mov kf)]) .ret) .skip)
def zlV:AC:=(.block 0 (.loop Jo))
def zmW:AC:=(.seq (.seq (rr [jm 20 1,jk 21 20,jv 22 (.mov (jn 0))]) zlV) JF)
def zh2:AC:=(.seq (rr [jv 6 (.mov (.k (.sl .nl .s 0 [])))]) zmW)
def zmY:AC:=(.seq (.seq (rr [jv 11 (.load (.ag [.s,.p]) (.t 2)),jx 12 (.call (jf 20) [.t 11]),jv 13 (.un .not (.t 12)),jm 14 13,jg 15 14 false (.load (.ag [.s,.p]) (.t 2)),jg 16 14 false (.mov (.t 1)),.mk (some 17) (some (14,false)) false (.call (jf 30) [.t 15,.t 16]),jg 18 14 false (.un .not (.t 17)),jv 19 (.pick (.t 14) kt (.t 18))]) zhM) zh2)
def A12:AC:=(.seq (.reg [.clr [2]] [jx 2 (.box (.t 0)),jv 4 (.mov (.k (.sl .nl .s 0 []))),jv 5 (.mov kf)] []) zmY)
def ztm:List An:=[⟨0,[.clr [2]],[],[],[]⟩,⟨11,[.clr [38,39]],[],[],[.home 39 6]⟩,⟨14,[],[],[],[.home 6 4]⟩]
theorem c12:cq Try.prog Try.f12 ztm=some A12:=by kernel_rfl
structure H12 (D:Den) (σ:Sig) (F:Nat):Prop where
 c20:C20 (D 20) F
 g20:σ 20=some (0,false)
 c30:C30 (D 30) F
 g30:σ 30=some (0,false)
 c32:C32 (D 32) F
 g32:σ 32=some (0,false)
abbrev R12 (r:(LI×Bool)):(Nat→V)→Prop:=RR Try.prog [.tmp 4,.tmp 5] 0 false (.tup [eL r.1,Enc.enc (r.2:Bool)])
section
variable {r:(LI×Bool)}
def vx (F:Nat) (x2:(List LI)) (x25:Int) (v44:LI) (x51:Int) (c1:(NL Int)→Int→Option (LI×Bool)) (c4:(NL Int)→Int→Option (LI×Bool)) (x60:(NL Int)):Option (LI×Bool):=
 c4 x60 (w64 (x51 + 1))
theorem za5 (H:H12 D σ F) (x2:(List LI)) (x25:Int) (v44:LI) (x51:Int) (c1:(NL Int)→Int→Option (LI×Bool)) (Hc1:∀ (x24:(NL Int)) (x25:Int) (s:Nat→V),zr [(4,nI),(5,jb false),(6,oI 6 [] x24),(20,Enc.enc (x2:List LI)),(21,ji (x2.length:Int)),(22,ji x25)] s→c1 x24 x25=some r→Run D σ (R12 r) (.run Jo [.lp Jo,.bk 0,.sq JF]) s) (c4:(NL Int)→Int→Option (LI×Bool)) (Hc4:∀ (x50:(NL Int)) (x51:Int) (s:Nat→V),zr [(4,nI),(5,jb false),(6,oI 6 [] x50),(20,Enc.enc (x2:List LI)),(21,ji (x2.length:Int)),(22,ji x25),(26,eL v44),(27,ji (v44.length:Int)),(28,ji x51)] s→c4 x50 x51=some r→Run D σ (R12 r) (.run Ni [.lp Ni,.bk 2,.bk 1,.sq Qn,.lp Jo,.bk 0,.sq JF]) s) (x60:(NL Int)) (s:Nat→V) (hs:zr [(4,nI),(5,jb false),(6,oI 6 [] x60),(20,Enc.enc (x2:List LI)),(21,ji (x2.length:Int)),(22,ji x25),(26,eL v44),(27,ji (v44.length:Int)),(28,ji x51)] s) (h:vx F x2 x25 v44 x51 c1 c4 x60=some r):Run D σ (R12 r) (.nrm [.bk 3,.sq zhS,.lp Ni,.bk 2,.bk 1,.sq Qn,.lp Jo,.bk 0,.sq JF]) s:=by
 unfold vx at h
 obtain ⟨h4,h5,h6,h20,h21,h22,h26,h27,h28⟩:=hs
 refine .nbk (.nsq (rg (g1 28 (ji (w64 (x51 + 1))) h28 fun h40=>gm h40 fun h28=>gq (.nlp ?_))))
 exact Hc4 x60 (w64 (x51 + 1)) _ ⟨h4,h5,h6,h20,h21,h22,h26,h27,h28⟩ h
def xi (F:Nat) (x2:(List LI)) (x25:Int) (v44:LI) (c1:(NL Int)→Int→Option (LI×Bool)):Nat→(NL Int)→Int→Option (LI×Bool)
 | 0,_,_=>none
 | k + 1,x50,x51=>
   bif decide (x51 < (v44.length:Int)) then
    (idx v44 x51).bind fun v57=>
    (y3 F x50.list v57).bind fun r58=>
    bif (!r58) then
     (vW x50.list [v57]).bind fun ap61=>
     vx F x2 x25 v44 x51 c1 (xi F x2 x25 v44 c1 k) (.of ap61)
    else
     vx F x2 x25 v44 x51 c1 (xi F x2 x25 v44 c1 k) x50
   else
    c1 x50 (w64 (x25 + 1))
theorem ziy (H:H12 D σ F) (x2:(List LI)) (x25:Int) (v44:LI) (c1:(NL Int)→Int→Option (LI×Bool)) (Hc1:∀ (x24:(NL Int)) (x25:Int) (s:Nat→V),zr [(4,nI),(5,jb false),(6,oI 6 [] x24),(20,Enc.enc (x2:List LI)),(21,ji (x2.length:Int)),(22,ji x25)] s→c1 x24 x25=some r→Run D σ (R12 r) (.run Jo [.lp Jo,.bk 0,.sq JF]) s):∀ (k:Nat) (x50:(NL Int)) (x51:Int) (s:Nat→V),zr [(4,nI),(5,jb false),(6,oI 6 [] x50),(20,Enc.enc (x2:List LI)),(21,ji (x2.length:Int)),(22,ji x25),(26,eL v44),(27,ji (v44.length:Int)),(28,ji x51)] s→xi F x2 x25 v44 c1 k x50 x51=some r→Run D σ (R12 r) (.run Ni [.lp Ni,.bk 2,.bk 1,.sq Qn,.lp Jo,.bk 0,.sq JF]) s:=by
 intro k
 induction k with
 | zero=>intro x50 x51 s _ h;exact nm h
 | succ k ih=>
   intro x50 x51 s hs h
   rw [xi] at h
   obtain ⟨h4,h5,h6,h20,h21,h22,h26,h27,h28⟩:=hs
   refine .seq (rg (g2 28 27 (jb (decide (x51 < (v44.length:Int)))) h28 h27 fun h29=>gq (.nsq (.seq (zk h29 h (fun h=>?_) (fun h=>?_))))))
   · refine .skip (.nsq (.seq (.block (.seq (rg ?_)))))
     obtain ⟨v57,Ev57,h⟩:=zb h
     refine gv (.ref .sh 0 [] (ji v57)) (yn (t:=.sh) (lo:=0) (xs:=v44) h26 h28 Ev57 rfl rfl) fun h30=>g1 30 (ji v57) h30 fun h31=>gm h31 fun h10=>gq (.nsq (.seq (rg (gv (oI 6 [] x50) (XA h6 Zd) fun h32=>gm h10 fun h33=>?_))))
     obtain ⟨r58,Er58,h⟩:=zb h
     refine gcF [eL x50.list,Enc.enc (v57:Int)] (zg h32 Z9 (ZJ (o:=x50)) (zg h33 rfl rfl zF)) (H.c32 _ _ _ Er58) H.g32 (g1 34 (jb (!r58)) (rf (jb r58)) fun h35=>gq (.nsq (zk h35 h (fun h=>?_) (fun h=>?_))))
     · refine zC (ye ?_)
       refine ez [(4,_),(5,_),(6,_),(10,_),(20,_),(21,_),(22,_),(26,_),(27,_),(28,_),(38,_),(39,_)] ⟨za h4 rfl rfl,za h5 rfl mb,za h6 rfl (zp (r:=6) (p:=[]) rfl rfl),za h10 rfl mi,za h20 rfl me,za h21 rfl mi,za h22 rfl mi,za h26 rfl me,za h27 rfl mi,za h28 rfl mi,ze rfl,ze rfl⟩ ?_
       rintro s ⟨h4,h5,h6,h10,h20,h21,h22,h26,h27,h28,h38,h39⟩
       refine gv (oI 6 [] x50) (XA h6 Zd) fun h36=>gm h10 fun h37=>wm [(37,ji v57)] [Enc.enc (v57:Int)] h37 rfl rfl h38 ?_
       obtain ⟨ap61,Eap61,h⟩:=zb h
       refine X4 (q:=6) (p:=[]) (o:=(x50:NL Int)) (ys:=([v57]:LI)) (t2:=.at 38 []) (lo2:=0) h36 rfl rfl h39 (Ya (o:=(x50:NL Int)) Eap61 (by split <;> simp)) (fun s54 ha54=>gm (rf (oI 39 [] (.of ap61))) fun h6=>yS (yF (r:=39) (x:=6) (v:=_) h6 rfl (fun s55 hz55=>?_)))
       refine ez [(4,nI),(5,jb false),(6,oI 6 [] (.of ap61)),(20,Enc.enc (x2:List LI)),(21,ji (x2.length:Int)),(22,ji x25),(26,eL v44),(27,ji (v44.length:Int)),(28,ji x51)] ⟨hz55 4 _ nI (show s54 4=nI from yc ha54 h4 rfl) rfl,hz55 5 _ _ (show s54 5=(jb false) from yc ha54 h5 mb) mb,hz55 6 _ _ h6 (zp (r:=39) (p:=[]) rfl rfl),hz55 20 _ _ (show s54 20=(Enc.enc (x2:List LI)) from yc ha54 h20 me) me,hz55 21 _ _ (show s54 21=(ji (x2.length:Int)) from yc ha54 h21 mi) mi,hz55 22 _ _ (show s54 22=(ji x25) from yc ha54 h22 mi) mi,hz55 26 _ _ (show s54 26=(eL v44) from yc ha54 h26 me) me,hz55 27 _ _ (show s54 27=(ji (v44.length:Int)) from yc ha54 h27 mi) mi,hz55 28 _ _ (show s54 28=(ji x51) from yc ha54 h28 mi) mi⟩ ?_
       rintro s ⟨h4,h5,h6,h20,h21,h22,h26,h27,h28⟩
       exact za5 H x2 x25 v44 x51 c1 Hc1 (xi F x2 x25 v44 c1 k) ih (.of ap61) _ ⟨h4,h5,h6,h20,h21,h22,h26,h27,h28⟩ h
     refine .skip ?_
     exact za5 H x2 x25 v44 x51 c1 Hc1 (xi F x2 x25 v44 c1 k) ih x50 _ ⟨h4,h5,h6,h20,h21,h22,h26,h27,h28⟩ h
   refine .exit (.esq (.elp (.ebk (.nbk (.nsq (rg (g1 22 (ji (w64 (x25 + 1))) h22 fun h41=>gm h41 fun h22=>gq (.nlp ?_))))))))
   exact Hc1 x50 (w64 (x25 + 1)) _ ⟨h4,h5,h6,h20,h21,h22⟩ h
def xW (F:Nat) (x2:(List LI)) :Nat→(NL Int)→Int→Option (LI×Bool)
 | 0,_,_=>none
 | k + 1,x24,x25=>
   bif decide (x25 < (x2.length:Int)) then
    (idx x2 x25).bind fun v44=>
    xi F x2 x25 v44 (xW F x2 k) F x24 0
   else
    some (x24.list,true)
theorem zgq (H:H12 D σ F) (x2:(List LI)) :∀ (k:Nat) (x24:(NL Int)) (x25:Int) (s:Nat→V),zr [(4,nI),(5,jb false),(6,oI 6 [] x24),(20,Enc.enc (x2:List LI)),(21,ji (x2.length:Int)),(22,ji x25)] s→xW F x2 k x24 x25=some r→Run D σ (R12 r) (.run Jo [.lp Jo,.bk 0,.sq JF]) s:=by
 intro k
 induction k with
 | zero=>intro x24 x25 s _ h;exact nm h
 | succ k ih=>
   intro x24 x25 s hs h
   rw [xW] at h
   obtain ⟨h4,h5,h6,h20,h21,h22⟩:=hs
   refine .seq (rg (g2 22 21 (jb (decide (x25 < (x2.length:Int)))) h22 h21 fun h23=>gq (.nsq (.seq (zk h23 h (fun h=>?_) (fun h=>?_))))))
   · refine .skip (.nsq (.seq (.block (.seq (rg ?_)))))
     obtain ⟨v44,Ev44,h⟩:=zb h
     refine gv (.ref .sh 0 [] (eL v44)) (yn (t:=.sh) (lo:=0) (xs:=x2) h20 h22 Ev44 rfl rfl) fun h24=>g1 24 (eL v44) h24 fun h25=>gm h25 fun h8=>gq (.nsq (.seq (rg (gm h8 fun h26=>gl v44 h26 fun h27=>g0 (ji 0) fun h28=>gq (.nsq (.block (.loop ?_)))))))
     exact ziy H x2 x25 v44 (xW F x2 k) ih F x24 0 _ ⟨h4,h5,h6,h20,h21,h22,h26,h27,h28⟩ h
   refine .exit (.esq (.elp (.ebk (.nsq (.seq (rg (gv (oI 6 [] x24) (XA h6 Zd) fun h42=>gv (oI 6 [] x24) (XA h42 Zd) fun h4=>g0 (jb true) fun h5=>yS (yF (r:=6) (x:=4) (v:=_) h4 Zd (fun s56 hz56=>?_)))))))))
   refine ez [(4,oI 4 [] x24),(5,jb true)] ⟨hz56 4 _ _ h4 (zp (r:=6) (p:=[]) rfl rfl),hz56 5 _ _ h5 mb⟩ ?_
   rintro s ⟨h4,h5⟩
   refine .nsq (.ret ?_)
   obtain rfl:=oi h
   exact rrB (zl h4) (zl h5) (ZA (Zh (yG (ui (o:=x24)) (yG (w7 (x:=(true:Bool))) vt))) (Wp (xc (uo rfl) (xc rfl ut))))
def vy (F:Nat) (x2:(List LI))  (x5:Bool):Option (LI×Bool):=
 bif x5 then
  some ([],false)
 else
  xW F x2 F .nil 0
theorem zbh (H:H12 D σ F) (x2:(List LI))  (x5:Bool) (s:Nat→V) (hs:zr [(1,Enc.enc (x2:List LI)),(4,nI),(5,jb false),(19,jb x5)] s) (h:vy F x2  x5=some r):Run D σ (R12 r) (.nrm [.sq zhM,.sq zh2]) s:=by
 unfold vy at h
 obtain ⟨h1,h4,h5,h19⟩:=hs
 refine .nsq (zk h19 h (fun h=>?_) (fun h=>?_))
 · refine .seq (rg (g0 nI fun h4=>g0 (jb false) fun h5=>gq (.nsq (.ret ?_))))
   obtain rfl:=oi h
   exact rrB (zl h4) (zl h5) (ZA (Zh (yG (ui (o:=(.nil:NL Int)) (t:=.nl)) (yG (w7 (x:=(false:Bool))) vt))) (Wp (xc zbN (xc rfl ut))))
 refine .skip (.nsq (.seq (rg (g0 nI fun h6=>gq (.nsq (.seq (.seq (rg (gm h1 fun h20=>gl x2 h20 fun h21=>g0 (ji 0) fun h22=>gq (.nsq (.block (.loop ?_))))))))))))
 exact zgq H x2 F .nil 0 _ ⟨h4,h5,h6,h20,h21,h22⟩ h
def wD (F:Nat) (x1:GR) (x2:(List LI)):Option (LI×Bool):=
 (wW F x1).bind fun r62=>
 bif (!r62) then
  vy F x2 true
 else
  (y0 F x1 x2).bind fun r63=>
  vy F x2 (!r63)
theorem t12 (H:H12 D σ F) (x1:GR) (x2:(List LI)) (s:Nat→V) (hs:zr [(0,gV x1),(1,Enc.enc (x2:List LI))] s) (h:wD F x1 x2=some r):Run D σ (R12 r) (.run A12 []) s:=by
 unfold wD at h
 obtain ⟨h0,h1⟩:=hs
 refine .seq (zC (ye ?_))
 refine ez [(0,_),(1,_),(2,_)] ⟨za h0 rfl mIE,za h1 rfl me,ze rfl⟩ ?_
 rintro s ⟨h0,h1,h2⟩
 refine wa (gV x1) (zI h0 rfl) h2 rfl (g0 nI fun h4=>g0 (jb false) fun h5=>gq (.nsq (.seq (.seq (rg (g1 2 (gV x1) (rf (bG 2 x1)) fun h11=>?_))))))
 obtain ⟨r62,Er62,h⟩:=zb h
 refine gcF [Enc.enc (x1:GR)] (zg h11 rfl (Enc.erase_enc (x1:GR)) zF) (H.c20 _ _ Er62) H.g20 (g1 12 (jb (!r62)) (rf (jb r62)) fun h13=>gm h13 fun h14=>z6 h (fun hg4 h=>?_) (fun hg4 h=>?_))
 · iterate 4 refine yJ (ct h14 hg4) ?_
   refine g2 14 18 (jb true) (ct h14 hg4) (rf (.tup [])) fun h19=>gq ?_
   exact zbh H x2 true _ ⟨h1,h4,h5,h19⟩ h
 refine zo (ct h14 hg4) (g1 2 (gV x1) (rf (bG 2 x1)) fun h15=>zo (ct h14 hg4) (gm h1 fun h16=>?_))
 obtain ⟨r63,Er63,h⟩:=zb h
 refine zo (ct h14 hg4) (gcF [Enc.enc (x1:GR),Enc.enc (x2:(List LI))] (zg h15 rfl (Enc.erase_enc (x1:GR)) (zg h16 rfl (Enc.erase_enc (x2:(List LI))) zF)) (H.c30 _ _ _ Er63) H.g30 (zo (ct h14 hg4) (g1 17 (jb (!r63)) (rf (jb r63)) fun h18=>g2 14 18 (jb (!r63)) (ct h14 hg4) h18 fun h19=>gq ?_)))
 exact zbh H x2 (!r63) _ ⟨h1,h4,h5,h19⟩ h
end
def e12 (F:Nat):Ent:=ent 12 (fun (x:(GR×(List LI)×Unit))=>wD F x.1 x.2.1) (fun (r:(LI×Bool))=>(.tup [eL r.1,Enc.enc (r.2:Bool)])) 0 false []
abbrev C12 (D:List V→Option V) (F:Nat):Prop:=∀ (x0:GR) (x1:(List LI)) r,wD F x0 x1=some r→D [Enc.enc x0,Enc.enc x1]=some (.tup [eL r.1,Enc.enc (r.2:Bool)])
theorem p12 {F:Nat}:C12 (e12 F).den F:=fun x0 x1 _ h=>zR (x0,x1,()) h
theorem o12 (hF:zw Try.prog D σ) (H:H12 D σ F):(e12 F).Ok Try.prog:=okZ (f:=12) Try.func12 fun ⟨x0,x1,_⟩ y hy=>cR hF Try.func12 c12 (t12 H x0 x1 _ ⟨rfl,rfl⟩ hy)
def zsd:AC:=(.cond (.t 23) .skip (.exit 0))
def zqW:AC:=(.cond (.t 32) .skip (.exit 2))
def zsU:AC:=(.cond (.t 44) (.reg [.clr [53,54]] [jm 45 6,jm 46 1,jm 47 7,jv 48 (.idx (.t 46) (.t 47) 1),jv 49 (.load .p (.t 48)),jm 50 8,jv 51 (.idx (.t 49) (.t 50) 1),jl 52 51,jx 53 (.lit i0 1 [(0,0,.t 52)]),jx 54 (.app .s (.t 45) (.t 53)),jm 6 54] [.home 54 6]) .skip)
def zkR:AC:=(rr [jm 33 8,jv 34 (.bin .add (.t 33) (jn 1)),jm 8 34])
def zqf:AC:=(.seq (.block 3 (.seq (rr [jm 35 6,jm 36 1,jm 37 7,jv 38 (.idx (.t 36) (.t 37) 1),jv 39 (.load .p (.t 38)),jm 40 8,jv 41 (.idx (.t 39) (.t 40) 1),jl 42 41,jx 43 (.call (jf 33) [.t 35,.t 42]),jv 44 (.un .not (.t 43))]) zsU)) zkR)
def N5:AC:=(.seq (.seq (rr [jm 26 8,jm 27 1,jm 28 7,jv 29 (.idx (.t 27) (.t 28) 1),jv 30 (.load .p (.t 29)),jk 31 30,jv 32 (.bin .lss (.t 26) (.t 31))]) zqW) zqf)
def zsG:AC:=(.block 2 (.loop N5))
def Qw:AC:=(rr [jm 24 7,jv 25 (.bin .add (.t 24) (jn 1)),jm 7 25])
def zsV:AC:=(.seq (.block 1 (.seq (rr [jv 8 (.mov (jn 0))]) zsG)) Qw)
def Jm:AC:=(.seq (.seq (rr [jm 20 7,jm 21 1,jk 22 21,jv 23 (.bin .lss (.t 20) (.t 22))]) zsd) zsV)
def Jt:AC:=(.seq (.reg [] [jm 55 6,jm 4 55,jv 5 (.mov kt)] [.home 6 4]) .ret)
def zg7:AC:=(.cond (.t 18) (.seq (rr [jm 19 6,jm 4 19,jv 5 (.mov kf)]) .ret) .skip)
def znf:AC:=(.block 0 (.loop Jm))
def zhU:AC:=(.seq (.seq (rr [jv 7 (.mov (jn 0))]) znf) Jt)
def zly:AC:=(.seq (.seq (rr [jv 10 (.load (.ag [.s,.p]) (.t 2)),jx 11 (.call (jf 25) [.t 10]),jv 12 (.un .not (.t 11)),jm 13 12,jg 14 13 false (.load (.ag [.s,.p]) (.t 2)),jg 15 13 false (.mov (.t 1)),.mk (some 16) (some (13,false)) false (.call (jf 31) [.t 14,.t 15]),jg 17 13 false (.un .not (.t 16)),jv 18 (.pick (.t 13) kt (.t 17))]) zg7) zhU)
def zmr:AC:=(.seq (.reg [.clr [9]] [jx 9 (.lit i0 0 []),jm 6 9] [.home 9 6]) zly)
def A13:AC:=(.seq (.reg [.clr [2]] [jx 2 (.box (.t 0)),jv 4 (.mov (.k (.sl .nl .s 0 []))),jv 5 (.mov kf)] []) zmr)
def zs6:List An:=[⟨0,[.clr [2]],[],[],[]⟩,⟨1,[.clr [9]],[],[],[.home 9 6]⟩,⟨11,[.clr [53,54]],[],[],[.home 54 6]⟩,⟨12,[],[],[],[.home 6 4]⟩]
theorem c13:cq Try.prog Try.f13 zs6=some A13:=by kernel_rfl
structure H13 (D:Den) (σ:Sig) (F:Nat):Prop where
 c25:C25 (D 25) F
 g25:σ 25=some (0,false)
 c31:C31 (D 31) F
 g31:σ 31=some (0,false)
 c33:C33 (D 33) F
 g33:σ 33=some (0,false)
abbrev R13 (r:(LI×Bool)):(Nat→V)→Prop:=RR Try.prog [.tmp 4,.tmp 5] 0 false (.tup [eL r.1,Enc.enc (r.2:Bool)])
section
variable {r:(LI×Bool)}
def vz (F:Nat) (x2:(List LI)) (x42:Int) (x90:Int) (c1:LI→Int→Option (LI×Bool)) (c4:LI→Int→Option (LI×Bool)) (x109:LI):Option (LI×Bool):=
 c4 x109 (w64 (x90 + 1))
theorem zci (H:H13 D σ F) (x2:(List LI)) (x42:Int) (x90:Int) (c1:LI→Int→Option (LI×Bool)) (Hc1:∀ (x41:LI) (x42:Int) (s:Nat→V),zr [(1,Enc.enc (x2:List LI)),(4,nI),(5,jb false),(6,oI 6 [] (.of x41)),(7,ji x42)] s→c1 x41 x42=some r→Run D σ (R13 r) (.run Jm [.lp Jm,.bk 0,.sq Jt]) s) (c4:LI→Int→Option (LI×Bool)) (Hc4:∀ (x89:LI) (x90:Int) (s:Nat→V),zr [(1,Enc.enc (x2:List LI)),(4,nI),(5,jb false),(6,oI 6 [] (.of x89)),(7,ji x42),(8,ji x90)] s→c4 x89 x90=some r→Run D σ (R13 r) (.run N5 [.lp N5,.bk 2,.bk 1,.sq Qw,.lp Jm,.bk 0,.sq Jt]) s) (x109:LI) (s:Nat→V) (hs:zr [(1,Enc.enc (x2:List LI)),(4,nI),(5,jb false),(6,oI 6 [] (.of x109)),(7,ji x42),(8,ji x90)] s) (h:vz F x2 x42 x90 c1 c4 x109=some r):Run D σ (R13 r) (.nrm [.bk 3,.sq zkR,.lp N5,.bk 2,.bk 1,.sq Qw,.lp Jm,.bk 0,.sq Jt]) s:=by
 unfold vz at h
 obtain ⟨h1,h4,h5,h6,h7,h8⟩:=hs
 refine .nbk (.nsq (rg (gm h8 fun h33=>g1 33 (ji (w64 (x90 + 1))) h33 fun h34=>gm h34 fun h8=>gq (.nlp ?_))))
 exact Hc4 x109 (w64 (x90 + 1)) _ ⟨h1,h4,h5,h6,h7,h8⟩ h
def y7 (F:Nat) (x2:(List LI)) (x42:Int) (c1:LI→Int→Option (LI×Bool)):Nat→LI→Int→Option (LI×Bool)
 | 0,_,_=>none
 | k + 1,x89,x90=>
   (idx x2 x42).bind fun v102=>
   bif decide (x90 < (v102.length:Int)) then
    (idx x2 x42).bind fun v103=>
    (idx v103 x90).bind fun v104=>
    (uB F x89 v104).bind fun r105=>
    bif (!r105) then
     (idx x2 x42).bind fun v110=>
     (idx v110 x90).bind fun v111=>
     (vW x89 [v111]).bind fun ap112=>
     vz F x2 x42 x90 c1 (y7 F x2 x42 c1 k) ap112
    else
     vz F x2 x42 x90 c1 (y7 F x2 x42 c1 k) x89
   else
    c1 x89 (w64 (x42 + 1))
theorem zgN (H:H13 D σ F) (x2:(List LI)) (x42:Int) (c1:LI→Int→Option (LI×Bool)) (Hc1:∀ (x41:LI) (x42:Int) (s:Nat→V),zr [(1,Enc.enc (x2:List LI)),(4,nI),(5,jb false),(6,oI 6 [] (.of x41)),(7,ji x42)] s→c1 x41 x42=some r→Run D σ (R13 r) (.run Jm [.lp Jm,.bk 0,.sq Jt]) s):∀ (k:Nat) (x89:LI) (x90:Int) (s:Nat→V),zr [(1,Enc.enc (x2:List LI)),(4,nI),(5,jb false),(6,oI 6 [] (.of x89)),(7,ji x42),(8,ji x90)] s→y7 F x2 x42 c1 k x89 x90=some r→Run D σ (R13 r) (.run N5 [.lp N5,.bk 2,.bk 1,.sq Qw,.lp Jm,.bk 0,.sq Jt]) s:=by
 intro k
 induction k with
 | zero=>intro x89 x90 s _ h;exact nm h
 | succ k ih=>
   intro x89 x90 s hs h
   rw [y7] at h
   obtain ⟨h1,h4,h5,h6,h7,h8⟩:=hs
   refine .seq (.seq (rg (gm h8 fun h26=>gm h1 fun h27=>gm h7 fun h28=>?_)))
   obtain ⟨v102,Ev102,h⟩:=zb h
   refine gv (.ref .sh 0 [] (eL v102)) (yn (t:=.sh) (lo:=0) (xs:=x2) h27 h28 Ev102 rfl rfl) fun h29=>g1 29 (eL v102) h29 fun h30=>gl v102 h30 fun h31=>g2 26 31 (jb (decide (x90 < (v102.length:Int)))) h26 h31 fun h32=>gq (.nsq (zk h32 h (fun h=>?_) (fun h=>?_)))
   · refine .skip (.nsq (.seq (.block (.seq (rg (gm h6 fun h35=>gm h1 fun h36=>gm h7 fun h37=>?_))))))
     obtain ⟨v103,Ev103,h⟩:=zb h
     refine gv (.ref .sh 0 [] (eL v103)) (yn (t:=.sh) (lo:=0) (xs:=x2) h36 h37 Ev103 rfl rfl) fun h38=>g1 38 (eL v103) h38 fun h39=>gm h8 fun h40=>?_
     obtain ⟨v104,Ev104,h⟩:=zb h
     refine gv (.ref .sh 0 [] (ji v104)) (yn (t:=.sh) (lo:=0) (xs:=v103) h39 h40 Ev104 rfl rfl) fun h41=>g1 41 (ji v104) h41 fun h42=>?_
     obtain ⟨r105,Er105,h⟩:=zb h
     refine gcF [eL x89,Enc.enc (v104:Int)] (zg h35 rfl (ZJ (o:=.of x89)) (zg h42 rfl rfl zF)) (H.c33 _ _ _ Er105) H.g33 (g1 43 (jb (!r105)) (rf (jb r105)) fun h44=>gq (.nsq (zk h44 h (fun h=>?_) (fun h=>?_))))
     · refine zC (ye ?_)
       refine ez [(1,_),(4,_),(5,_),(6,_),(7,_),(8,_),(53,_),(54,_)] ⟨za h1 rfl me,za h4 rfl rfl,za h5 rfl mb,za h6 rfl (zp (r:=6) (p:=[]) rfl rfl),za h7 rfl mi,za h8 rfl mi,ze rfl,ze rfl⟩ ?_
       rintro s ⟨h1,h4,h5,h6,h7,h8,h53,h54⟩
       refine gm h6 fun h45=>gm h1 fun h46=>gm h7 fun h47=>?_
       obtain ⟨v110,Ev110,h⟩:=zb h
       refine gv (.ref .sh 0 [] (eL v110)) (yn (t:=.sh) (lo:=0) (xs:=x2) h46 h47 Ev110 rfl rfl) fun h48=>g1 48 (eL v110) h48 fun h49=>gm h8 fun h50=>?_
       obtain ⟨v111,Ev111,h⟩:=zb h
       refine gv (.ref .sh 0 [] (ji v111)) (yn (t:=.sh) (lo:=0) (xs:=v110) h49 h50 Ev111 rfl rfl) fun h51=>g1 51 (ji v111) h51 fun h52=>wm [(52,ji v111)] [Enc.enc (v111:Int)] h52 rfl rfl h53 ?_
       obtain ⟨ap112,Eap112,h⟩:=zb h
       refine X4 (q:=6) (p:=[]) (o:=.of (x89:LI)) (ys:=([v111]:LI)) (t2:=.at 53 []) (lo2:=0) h45 rfl rfl h54 (Ya (o:=.of (x89:LI)) Eap112 trivial) (fun s56 ha56=>gm (rf (oI 54 [] (.of ap112))) fun h6=>yS (yF (r:=54) (x:=6) (v:=_) h6 rfl (fun s57 hz57=>?_)))
       refine ez [(1,Enc.enc (x2:List LI)),(4,nI),(5,jb false),(6,oI 6 [] (.of ap112)),(7,ji x42),(8,ji x90)] ⟨hz57 1 _ _ (show s56 1=(Enc.enc (x2:List LI)) from yc ha56 h1 me) me,hz57 4 _ nI (show s56 4=nI from yc ha56 h4 rfl) rfl,hz57 5 _ _ (show s56 5=(jb false) from yc ha56 h5 mb) mb,hz57 6 _ _ h6 (zp (r:=54) (p:=[]) rfl rfl),hz57 7 _ _ (show s56 7=(ji x42) from yc ha56 h7 mi) mi,hz57 8 _ _ (show s56 8=(ji x90) from yc ha56 h8 mi) mi⟩ ?_
       rintro s ⟨h1,h4,h5,h6,h7,h8⟩
       exact zci H x2 x42 x90 c1 Hc1 (y7 F x2 x42 c1 k) ih ap112 _ ⟨h1,h4,h5,h6,h7,h8⟩ h
     refine .skip ?_
     exact zci H x2 x42 x90 c1 Hc1 (y7 F x2 x42 c1 k) ih x89 _ ⟨h1,h4,h5,h6,h7,h8⟩ h
   refine .exit (.esq (.elp (.ebk (.nbk (.nsq (rg (gm h7 fun h24=>g1 24 (ji (w64 (x42 + 1))) h24 fun h25=>gm h25 fun h7=>gq (.nlp ?_))))))))
   exact Hc1 x89 (w64 (x42 + 1)) _ ⟨h1,h4,h5,h6,h7⟩ h
def y8 (F:Nat) (x2:(List LI)) :Nat→LI→Int→Option (LI×Bool)
 | 0,_,_=>none
 | k + 1,x41,x42=>
   bif decide (x42 < (x2.length:Int)) then
    y7 F x2 x42 (y8 F x2 k) F x41 0
   else
    some (x41,true)
theorem zhw (H:H13 D σ F) (x2:(List LI)) :∀ (k:Nat) (x41:LI) (x42:Int) (s:Nat→V),zr [(1,Enc.enc (x2:List LI)),(4,nI),(5,jb false),(6,oI 6 [] (.of x41)),(7,ji x42)] s→y8 F x2 k x41 x42=some r→Run D σ (R13 r) (.run Jm [.lp Jm,.bk 0,.sq Jt]) s:=by
 intro k
 induction k with
 | zero=>intro x41 x42 s _ h;exact nm h
 | succ k ih=>
   intro x41 x42 s hs h
   rw [y8] at h
   obtain ⟨h1,h4,h5,h6,h7⟩:=hs
   refine .seq (.seq (rg (gm h7 fun h20=>gm h1 fun h21=>gl x2 h21 fun h22=>g2 20 22 (jb (decide (x42 < (x2.length:Int)))) h20 h22 fun h23=>gq (.nsq (zk h23 h (fun h=>?_) (fun h=>?_))))))
   · refine .skip (.nsq (.seq (.block (.seq (rg (g0 (ji 0) fun h8=>gq (.nsq (.block (.loop ?_)))))))))
     exact zgN H x2 x42 (y8 F x2 k) ih F x41 0 _ ⟨h1,h4,h5,h6,h7,h8⟩ h
   refine .exit (.esq (.elp (.ebk (.nsq (.seq (rg (gm h6 fun h55=>gm h55 fun h4=>g0 (jb true) fun h5=>yS (yF (r:=6) (x:=4) (v:=_) h4 rfl (fun s58 hz58=>?_)))))))))
   refine ez [(4,oI 4 [] (.of x41)),(5,jb true)] ⟨hz58 4 _ _ h4 (zp (r:=6) (p:=[]) rfl rfl),hz58 5 _ _ h5 mb⟩ ?_
   rintro s ⟨h4,h5⟩
   refine .nsq (.ret ?_)
   obtain rfl:=oi h
   exact rrB (zl h4) (zl h5) (ZA (Zh (yG (ui (o:=.of x41)) (yG (w7 (x:=(true:Bool))) vt))) (Wp (xc (uo rfl) (xc rfl ut))))
def vC (F:Nat) (x2:(List LI))  (x5:Bool):Option (LI×Bool):=
 bif x5 then
  some ([],false)
 else
  y8 F x2 F [] 0
theorem zbY (H:H13 D σ F) (x2:(List LI))  (x5:Bool) (s:Nat→V) (hs:zr [(1,Enc.enc (x2:List LI)),(4,nI),(5,jb false),(6,oI 6 [] (.of [])),(18,jb x5)] s) (h:vC F x2  x5=some r):Run D σ (R13 r) (.nrm [.sq zg7,.sq zhU]) s:=by
 unfold vC at h
 obtain ⟨h1,h4,h5,h6,h18⟩:=hs
 refine .nsq (zk h18 h (fun h=>?_) (fun h=>?_))
 · refine .seq (rg (gm h6 fun h19=>gm h19 fun h4=>g0 (jb false) fun h5=>gq (.nsq (.ret ?_))))
   obtain rfl:=oi h
   exact rrB (zl h4) (zl h5) (ZA (Zh (yG (ui (o:=.of [])) (yG (w7 (x:=(false:Bool))) vt))) (Wp (xc (uo rfl) (xc rfl ut))))
 refine .skip (.nsq (.seq (.seq (rg (g0 (ji 0) fun h7=>gq (.nsq (.block (.loop ?_))))))))
 exact zhw H x2 F [] 0 _ ⟨h1,h4,h5,h6,h7⟩ h
def wB (F:Nat) (x1:GR) (x2:(List LI)):Option (LI×Bool):=
 (uG F x1).bind fun r113=>
 bif (!r113) then
  vC F x2 true
 else
  (wG F x1 x2).bind fun r114=>
  vC F x2 (!r114)
theorem t13 (H:H13 D σ F) (x1:GR) (x2:(List LI)) (s:Nat→V) (hs:zr [(0,gV x1),(1,Enc.enc (x2:List LI))] s) (h:wB F x1 x2=some r):Run D σ (R13 r) (.run A13 []) s:=by
 unfold wB at h
 obtain ⟨h0,h1⟩:=hs
 refine .seq (zC (ye ?_))
 refine ez [(0,_),(1,_),(2,_)] ⟨za h0 rfl mIE,za h1 rfl me,ze rfl⟩ ?_
 rintro s ⟨h0,h1,h2⟩
 refine wa (gV x1) (zI h0 rfl) h2 rfl (g0 nI fun h4=>g0 (jb false) fun h5=>gq (.nsq (.seq (zC (ye ?_)))))
 refine ez [(1,_),(2,_),(4,_),(5,_),(9,_)] ⟨za h1 rfl me,za rfl rfl (zi rfl mIE),za h4 rfl rfl,za h5 rfl mb,ze rfl⟩ ?_
 rintro s ⟨h1,h2,h4,h5,h9⟩
 refine wm [] [] trivial rfl rfl h9 (gm (rf (oI 9 [] (.of []))) fun h6=>yS (yF (r:=9) (x:=6) (v:=_) h6 rfl (fun s3 hz3=>?_)))
 refine ez [(1,Enc.enc (x2:List LI)),(2,bG 2 x1),(4,nI),(5,jb false),(6,oI 6 [] (.of []))] ⟨hz3 1 _ _ h1 me,hz3 2 _ _ h2 (zi rfl mIE),hz3 4 _ _ h4 rfl,hz3 5 _ _ h5 mb,hz3 6 _ _ h6 (zp (r:=9) (p:=[]) rfl rfl)⟩ ?_
 rintro s ⟨h1,h2,h4,h5,h6⟩
 refine .nsq (.seq (.seq (rg (g1 2 (gV x1) h2 fun h10=>?_))))
 obtain ⟨r113,Er113,h⟩:=zb h
 refine gcF [Enc.enc (x1:GR)] (zg h10 rfl (Enc.erase_enc (x1:GR)) zF) (H.c25 _ _ Er113) H.g25 (g1 11 (jb (!r113)) (rf (jb r113)) fun h12=>gm h12 fun h13=>z6 h (fun hg4 h=>?_) (fun hg4 h=>?_))
 · iterate 4 refine yJ (ct h13 hg4) ?_
   refine g2 13 17 (jb true) (ct h13 hg4) (rf (.tup [])) fun h18=>gq ?_
   exact zbY H x2 true _ ⟨h1,h4,h5,h6,h18⟩ h
 refine zo (ct h13 hg4) (g1 2 (gV x1) h2 fun h14=>zo (ct h13 hg4) (gm h1 fun h15=>?_))
 obtain ⟨r114,Er114,h⟩:=zb h
 refine zo (ct h13 hg4) (gcF [Enc.enc (x1:GR),Enc.enc (x2:(List LI))] (zg h14 rfl (Enc.erase_enc (x1:GR)) (zg h15 rfl (Enc.erase_enc (x2:(List LI))) zF)) (H.c31 _ _ _ Er114) H.g31 (zo (ct h13 hg4) (g1 16 (jb (!r114)) (rf (jb r114)) fun h17=>g2 13 17 (jb (!r114)) (ct h13 hg4) h17 fun h18=>gq ?_)))
 exact zbY H x2 (!r114) _ ⟨h1,h4,h5,h6,h18⟩ h
end
def e13 (F:Nat):Ent:=ent 13 (fun (x:(GR×(List LI)×Unit))=>wB F x.1 x.2.1) (fun (r:(LI×Bool))=>(.tup [eL r.1,Enc.enc (r.2:Bool)])) 0 false []
abbrev C13 (D:List V→Option V) (F:Nat):Prop:=∀ (x0:GR) (x1:(List LI)) r,wB F x0 x1=some r→D [Enc.enc x0,Enc.enc x1]=some (.tup [eL r.1,Enc.enc (r.2:Bool)])
theorem p13 {F:Nat}:C13 (e13 F).den F:=fun x0 x1 _ h=>zR (x0,x1,()) h
theorem o13 (hF:zw Try.prog D σ) (H:H13 D σ F):(e13 F).Ok Try.prog:=okZ (f:=13) Try.func13 fun ⟨x0,x1,_⟩ y hy=>cR hF Try.func13 c13 (t13 H x0 x1 _ ⟨rfl,rfl⟩ hy)
def znU:AC:=(.seq (rr [jm 32 0,jv 33 (.conv .i64 (.t 32)),jv 34 (.bin .and (.t 33) (jn 127)),jm 2 34]) .ret)
def zqo:AC:=(.seq (rr [jm 28 0,jm 29 0,jv 30 (.bin .shr (.t 29) (.k (.int .u64 (.ofNat 32)))),jv 31 (.bin .add (.t 28) (.t 30)),jm 0 31]) znU)
def zr0:AC:=(.seq (rr [jm 24 0,jm 25 0,jv 26 (.bin .shr (.t 25) (.k (.int .u64 (.ofNat 16)))),jv 27 (.bin .add (.t 24) (.t 26)),jm 0 27]) zqo)
def zqi:AC:=(.seq (rr [jm 20 0,jm 21 0,jv 22 (.bin .shr (.t 21) (.k (.int .u64 (.ofNat 8)))),jv 23 (.bin .add (.t 20) (.t 22)),jm 0 23]) zr0)
def zr4:AC:=(.seq (rr [jm 15 0,jv 16 (.bin .shr (.t 15) (.k (.int .u64 (.ofNat 4)))),jm 17 0,jv 18 (.bin .add (.t 16) (.t 17)),jv 19 (.bin .and (.t 18) (.k (.int .u64 (.ofNat 1085102592571150095)))),jm 0 19]) zqi)
def zn3:AC:=(.seq (rr [jm 9 0,jv 10 (.bin .shr (.t 9) (.k (.int .u64 (.ofNat 2)))),jv 11 (.bin .and (.t 10) (.k (.int .u64 (.ofNat 3689348814741910323)))),jm 12 0,jv 13 (.bin .and (.t 12) (.k (.int .u64 (.ofNat 3689348814741910323)))),jv 14 (.bin .add (.t 11) (.t 13)),jm 0 14]) zr4)
def zsX:AC:=(.seq (rr [jm 3 0,jv 4 (.bin .shr (.t 3) (.k (.int .u64 (.ofNat 1)))),jv 5 (.bin .and (.t 4) (.k (.int .u64 (.ofNat 6148914691236517205)))),jm 6 0,jv 7 (.bin .and (.t 6) (.k (.int .u64 (.ofNat 6148914691236517205)))),jv 8 (.bin .add (.t 5) (.t 7)),jm 0 8]) zn3)
def A79:AC:=(.seq (rr [jv 2 (.mov (jn 0))]) zsX)
def zuw:List An:=[]
theorem c79:cq Try.prog Try.f79 zuw=some A79:=by kernel_rfl
structure H79 (D:Den) (σ:Sig) (F:Nat):Prop where
 mk ::
abbrev R79 (r:Int):(Nat→V)→Prop:=RR Try.prog [.tmp 2] 0 false (Enc.enc (r:Int))
section
variable {r:Int}
def vV (F:Nat) (x1:(Kd .u64)):Option Int:=
 (Jy .u64 x1.v 1).bind fun q2=>
 (Jy .u64 (IntKind.u64.wrap ((yU .u64 q2 6148914691236517205) + (yU .u64 x1.v 6148914691236517205))) 2).bind fun q3=>
 (Jy .u64 (IntKind.u64.wrap ((yU .u64 q3 3689348814741910323) + (yU .u64 (IntKind.u64.wrap ((yU .u64 q2 6148914691236517205) + (yU .u64 x1.v 6148914691236517205))) 3689348814741910323))) 4).bind fun q4=>
 (Jy .u64 (yU .u64 (IntKind.u64.wrap (q4 + (IntKind.u64.wrap ((yU .u64 q3 3689348814741910323) + (yU .u64 (IntKind.u64.wrap ((yU .u64 q2 6148914691236517205) + (yU .u64 x1.v 6148914691236517205))) 3689348814741910323))))) 1085102592571150095) 8).bind fun q5=>
 (Jy .u64 (IntKind.u64.wrap ((yU .u64 (IntKind.u64.wrap (q4 + (IntKind.u64.wrap ((yU .u64 q3 3689348814741910323) + (yU .u64 (IntKind.u64.wrap ((yU .u64 q2 6148914691236517205) + (yU .u64 x1.v 6148914691236517205))) 3689348814741910323))))) 1085102592571150095) + q5)) 16).bind fun q6=>
 (Jy .u64 (IntKind.u64.wrap ((IntKind.u64.wrap ((yU .u64 (IntKind.u64.wrap (q4 + (IntKind.u64.wrap ((yU .u64 q3 3689348814741910323) + (yU .u64 (IntKind.u64.wrap ((yU .u64 q2 6148914691236517205) + (yU .u64 x1.v 6148914691236517205))) 3689348814741910323))))) 1085102592571150095) + q5)) + q6)) 32).bind fun q7=>
 some (yU .i64 (w64 (IntKind.u64.wrap ((IntKind.u64.wrap ((IntKind.u64.wrap ((yU .u64 (IntKind.u64.wrap (q4 + (IntKind.u64.wrap ((yU .u64 q3 3689348814741910323) + (yU .u64 (IntKind.u64.wrap ((yU .u64 q2 6148914691236517205) + (yU .u64 x1.v 6148914691236517205))) 3689348814741910323))))) 1085102592571150095) + q5)) + q6)) + q7))) 127)
theorem t79 (H:H79 D σ F) (x1:(Kd .u64)) (s:Nat→V) (hs:zr [(0,.int .u64 x1.v)] s) (h:vV F x1=some r):Run D σ (R79 r) (.run A79 []) s:=by
 unfold vV at h
 have h0:=hs
 refine .seq (rg (g0 (ji 0) fun h2=>gq (.nsq (.seq (rg (gm h0 fun h3=>?_))))))
 obtain ⟨q2,Eq2,h⟩:=zb h
 refine gv (.int .u64 q2) (W0 h3 rfl Eq2) fun h4=>g1 4 (.int .u64 (yU .u64 q2 6148914691236517205)) h4 fun h5=>gm h0 fun h6=>g1 6 (.int .u64 (yU .u64 x1.v 6148914691236517205)) h6 fun h7=>g2 5 7 (.int .u64 (IntKind.u64.wrap ((yU .u64 q2 6148914691236517205) + (yU .u64 x1.v 6148914691236517205)))) h5 h7 fun h8=>gm h8 fun h0=>gq (.nsq (.seq (rg (gm h0 fun h9=>?_))))
 obtain ⟨q3,Eq3,h⟩:=zb h
 refine gv (.int .u64 q3) (W0 h9 rfl Eq3) fun h10=>g1 10 (.int .u64 (yU .u64 q3 3689348814741910323)) h10 fun h11=>gm h0 fun h12=>g1 12 (.int .u64 (yU .u64 (IntKind.u64.wrap ((yU .u64 q2 6148914691236517205) + (yU .u64 x1.v 6148914691236517205))) 3689348814741910323)) h12 fun h13=>g2 11 13 (.int .u64 (IntKind.u64.wrap ((yU .u64 q3 3689348814741910323) + (yU .u64 (IntKind.u64.wrap ((yU .u64 q2 6148914691236517205) + (yU .u64 x1.v 6148914691236517205))) 3689348814741910323)))) h11 h13 fun h14=>gm h14 fun h0=>gq (.nsq (.seq (rg (gm h0 fun h15=>?_))))
 obtain ⟨q4,Eq4,h⟩:=zb h
 refine gv (.int .u64 q4) (W0 h15 rfl Eq4) fun h16=>gm h0 fun h17=>g2 16 17 (.int .u64 (IntKind.u64.wrap (q4 + (IntKind.u64.wrap ((yU .u64 q3 3689348814741910323) + (yU .u64 (IntKind.u64.wrap ((yU .u64 q2 6148914691236517205) + (yU .u64 x1.v 6148914691236517205))) 3689348814741910323)))))) h16 h17 fun h18=>g1 18 (.int .u64 (yU .u64 (IntKind.u64.wrap (q4 + (IntKind.u64.wrap ((yU .u64 q3 3689348814741910323) + (yU .u64 (IntKind.u64.wrap ((yU .u64 q2 6148914691236517205) + (yU .u64 x1.v 6148914691236517205))) 3689348814741910323))))) 1085102592571150095)) h18 fun h19=>gm h19 fun h0=>gq (.nsq (.seq (rg (gm h0 fun h20=>gm h0 fun h21=>?_))))
 obtain ⟨q5,Eq5,h⟩:=zb h
 refine gv (.int .u64 q5) (W0 h21 rfl Eq5) fun h22=>g2 20 22 (.int .u64 (IntKind.u64.wrap ((yU .u64 (IntKind.u64.wrap (q4 + (IntKind.u64.wrap ((yU .u64 q3 3689348814741910323) + (yU .u64 (IntKind.u64.wrap ((yU .u64 q2 6148914691236517205) + (yU .u64 x1.v 6148914691236517205))) 3689348814741910323))))) 1085102592571150095) + q5))) h20 h22 fun h23=>gm h23 fun h0=>gq (.nsq (.seq (rg (gm h0 fun h24=>gm h0 fun h25=>?_))))
 obtain ⟨q6,Eq6,h⟩:=zb h
 refine gv (.int .u64 q6) (W0 h25 rfl Eq6) fun h26=>g2 24 26 (.int .u64 (IntKind.u64.wrap ((IntKind.u64.wrap ((yU .u64 (IntKind.u64.wrap (q4 + (IntKind.u64.wrap ((yU .u64 q3 3689348814741910323) + (yU .u64 (IntKind.u64.wrap ((yU .u64 q2 6148914691236517205) + (yU .u64 x1.v 6148914691236517205))) 3689348814741910323))))) 1085102592571150095) + q5)) + q6))) h24 h26 fun h27=>gm h27 fun h0=>gz [(0,_),(2,_)] ⟨h0,h2⟩ ?_
 rintro s ⟨h0,h2⟩
 refine .nsq (.seq (rg (gm h0 fun h28=>gm h0 fun h29=>?_)))
 obtain ⟨q7,Eq7,h⟩:=zb h
 refine gv (.int .u64 q7) (W0 h29 rfl Eq7) fun h30=>g2 28 30 (.int .u64 (IntKind.u64.wrap ((IntKind.u64.wrap ((IntKind.u64.wrap ((yU .u64 (IntKind.u64.wrap (q4 + (IntKind.u64.wrap ((yU .u64 q3 3689348814741910323) + (yU .u64 (IntKind.u64.wrap ((yU .u64 q2 6148914691236517205) + (yU .u64 x1.v 6148914691236517205))) 3689348814741910323))))) 1085102592571150095) + q5)) + q6)) + q7))) h28 h30 fun h31=>?_
 refine gm h31 fun h0=>gq (.nsq (.seq (rg (gm h0 fun h32=>g1 32 (ji (w64 (IntKind.u64.wrap ((IntKind.u64.wrap ((IntKind.u64.wrap ((yU .u64 (IntKind.u64.wrap (q4 + (IntKind.u64.wrap ((yU .u64 q3 3689348814741910323) + (yU .u64 (IntKind.u64.wrap ((yU .u64 q2 6148914691236517205) + (yU .u64 x1.v 6148914691236517205))) 3689348814741910323))))) 1085102592571150095) + q5)) + q6)) + q7)))) h32 fun h33=>?_))))
 refine g1 33 (ji (yU .i64 (w64 (IntKind.u64.wrap ((IntKind.u64.wrap ((IntKind.u64.wrap ((yU .u64 (IntKind.u64.wrap (q4 + (IntKind.u64.wrap ((yU .u64 q3 3689348814741910323) + (yU .u64 (IntKind.u64.wrap ((yU .u64 q2 6148914691236517205) + (yU .u64 x1.v 6148914691236517205))) 3689348814741910323))))) 1085102592571150095) + q5)) + q6)) + q7))) 127)) h33 fun h34=>gm h34 fun h2=>gq (.nsq (.ret ?_))
 obtain rfl:=oi h
 exact rrA (zl h2) rfl
end
def e79 (F:Nat):Ent:=ent 79 (fun (x:((Kd .u64)×Unit))=>vV F x.1) (fun (r:Int)=>(Enc.enc (r:Int))) 0 false []
abbrev C79 (D:List V→Option V) (F:Nat):Prop:=∀ (x0:(Kd .u64)) r,vV F x0=some r→D [Enc.enc x0]=some (Enc.enc (r:Int))
theorem p79 {F:Nat}:C79 (e79 F).den F:=fun x0 _ h=>zR (x0,()) h
theorem o79 {D:Den} {σ:Sig} {F:Nat} (hF:zw Try.prog D σ) (H:H79 D σ F):(e79 F).Ok Try.prog:=by
 refine ziK (f:=79) (show unk 79=79 from rfl) (fun args r h=>?_) ⟨Try.f79,Try.func79,rfl,rfl⟩
 obtain ⟨⟨x0,_⟩,y,rfl,hy,rfl⟩:=zaa h
 exact WU hF (by kernel_rfl) Try.func79 rfl c79 (show 1≤Try.f79.ntmps by decide) (t79 H x0 _ rfl hy)
def zo2:AC:=(.seq (rr [jm 6 0,jx 7 (.call (jf 79) [.t 6]),jm 2 7]) .ret)
def zqS:AC:=(.seq (.cond kf (.seq (rr [jm 3 0,jv 4 (.conv .u32 (.t 3)),jx 5 (.call (jf 78) [.t 4]),jm 2 5]) .ret) .skip) zo2)
def A60:AC:=(.seq (rr [jv 2 (.mov (jn 0))]) zqS)
def ztT:List An:=[]
theorem c60:cq Try.prog Try.f60 ztT=some A60:=by kernel_rfl
structure H60 (D:Den) (σ:Sig) (F:Nat):Prop where
 c79:C79 (D 79) F
 g79:σ 79=some (0,false)
abbrev R60 (r:Int):(Nat→V)→Prop:=RR Try.prog [.tmp 2] 0 false (Enc.enc (r:Int))
section
variable {r:Int}
def wZ (F:Nat) (x1:(Kd .u64)):Option Int:=
 (vV F (Kd.mk x1.v:Kd .u64)).bind fun r2=>
 some r2
theorem t60 (H:H60 D σ F) (x1:(Kd .u64)) (s:Nat→V) (hs:zr [(0,.int .u64 x1.v)] s) (h:wZ F x1=some r):Run D σ (R60 r) (.run A60 []) s:=by
 unfold wZ at h
 have h0:=hs
 refine .seq (rg (g0 (ji 0) fun h2=>gq (.nsq (.seq (zfF rfl (.skip (.nsq (.seq (rg (gm h0 fun h6=>?_))))))))))
 obtain ⟨r2,Er2,h⟩:=zb h
 refine gcF [Enc.enc ((Kd.mk x1.v:Kd .u64):(Kd .u64))] (zg h6 rfl rfl zF) (H.c79 _ _ Er2) H.g79 (gm (rf (ji r2)) fun h2=>gq (.nsq (.ret ?_)))
 obtain rfl:=oi h
 exact rrA (zl h2) rfl
end
def e60 (F:Nat):Ent:=ent 60 (fun (x:((Kd .u64)×Unit))=>wZ F x.1) (fun (r:Int)=>(Enc.enc (r:Int))) 0 false []
abbrev C60 (D:List V→Option V) (F:Nat):Prop:=∀ (x0:(Kd .u64)) r,wZ F x0=some r→D [Enc.enc x0]=some (Enc.enc (r:Int))
theorem p60 {F:Nat}:C60 (e60 F).den F:=fun x0 _ h=>zR (x0,()) h
theorem o60 {D:Den} {σ:Sig} {F:Nat} (hF:zw Try.prog D σ) (H:H60 D σ F):(e60 F).Ok Try.prog:=by
 refine ziK (f:=60) (show unk 60=60 from rfl) (fun args r h=>?_) ⟨Try.f60,Try.func60,rfl,rfl⟩
 obtain ⟨⟨x0,_⟩,y,rfl,hy,rfl⟩:=zaa h
 exact WU hF (by kernel_rfl) Try.func60 rfl c60 (show 1≤Try.f60.ntmps by decide) (t60 H x0 _ rfl hy)
def zpG:AC:=(.seq (rr [jv 7 (.load (.ag [.p]) (.t 3)),jm 8 1,jm 9 2,jv 10 (.bin .shl (jn 1) (.t 9)),jv 11 (.bin .or (.t 8) (.t 10)),jx 12 (.call (jf 24) [.t 7,.t 11]),jv 13 (.conv .u64 (.t 12)),jx 14 (.call (jf 60) [.t 13]),jm 6 14]) .ret)
def A34:AC:=(.seq (.reg [.clr [3]] [jx 3 (.box (.t 0)),jv 6 (.mov (jn 0))] []) zpG)
def ztB:List An:=[⟨0,[.clr [3]],[],[],[]⟩]
theorem c34:cq Try.prog Try.f34 ztB=some A34:=by kernel_rfl
structure H34 (D:Den) (σ:Sig) (F:Nat):Prop where
 c24:C24 (D 24) F
 g24:σ 24=some (0,false)
 c60:C60 (D 60) F
 g60:σ 60=some (0,false)
abbrev R34 (r:Int):(Nat→V)→Prop:=RR Try.prog [.tmp 6] 0 false (Enc.enc (r:Int))
section
variable {r:Int}
def xx (F:Nat) (x1:(S1 LI)) (x2:Int) (x3:Int):Option Int:=
 (UE .i64 1 x3).bind fun q4=>
 (vZ F x1 (ior .i64 x2 q4)).bind fun r5=>
 (wZ F (Kd.mk (IntKind.u64.wrap r5):Kd .u64)).bind fun r6=>
 some r6
theorem t34 (H:H34 D σ F) (x1:(S1 LI)) (x2:Int) (x3:Int) (s:Nat→V) (hs:zr [(0,.agg [eL x1.a]),(1,ji x2),(2,ji x3)] s) (h:xx F x1 x2 x3=some r):Run D σ (R34 r) (.run A34 []) s:=by
 unfold xx at h
 obtain ⟨h0,h1,h2⟩:=hs
 refine .seq (zC (ye ?_))
 refine ez [(0,_),(1,_),(2,_),(3,_)] ⟨za h0 rfl (z3 (zh me zH)),za h1 rfl mi,za h2 rfl mi,ze rfl⟩ ?_
 rintro s ⟨h0,h1,h2,h3⟩
 refine wa (.agg [eL x1.a]) (zI h0 rfl) h3 rfl (g0 (ji 0) fun h6=>gq (.nsq (.seq (rg (g1 3 (.agg [eL x1.a]) (rf (.ref (.bx 3) 0 [] (.agg [eL x1.a]))) fun h7=>gm h1 fun h8=>gm h2 fun h9=>?_)))))
 obtain ⟨q4,Eq4,h⟩:=zb h
 refine gv (ji q4) (XE rfl h9 Eq4) fun h10=>g2 8 10 (ji (ior .i64 x2 q4)) h8 h10 fun h11=>?_
 obtain ⟨r5,Er5,h⟩:=zb h
 refine gcF [Enc.enc (x1:(S1 LI)),Enc.enc (ior .i64 x2 q4:Int)] (zg h7 rfl (Enc.erase_enc (x1:(S1 LI))) (zg h11 rfl rfl zF)) (H.c24 _ _ _ Er5) H.g24 (g1 12 (.int .u64 (IntKind.u64.wrap r5)) (rf (ji r5)) fun h13=>?_)
 obtain ⟨r6,Er6,h⟩:=zb h
 refine gcF [Enc.enc ((Kd.mk (IntKind.u64.wrap r5):Kd .u64):(Kd .u64))] (zg h13 rfl rfl zF) (H.c60 _ _ Er6) H.g60 (gm (rf (ji r6)) fun h6=>gq (.nsq (.ret ?_)))
 obtain rfl:=oi h
 exact rrA (zl h6) rfl
end
def e34 (F:Nat):Ent:=ent 34 (fun (x:((S1 LI)×Int×Int×Unit))=>xx F x.1 x.2.1 x.2.2.1) (fun (r:Int)=>(Enc.enc (r:Int))) 0 false []
abbrev C34 (D:List V→Option V) (F:Nat):Prop:=∀ (x0:(S1 LI)) (x1:Int) (x2:Int) r,xx F x0 x1 x2=some r→D [Enc.enc x0,Enc.enc x1,Enc.enc x2]=some (Enc.enc (r:Int))
theorem p34 {F:Nat}:C34 (e34 F).den F:=fun x0 x1 x2 _ h=>zR (x0,x1,x2,()) h
theorem o34 (hF:zw Try.prog D σ) (H:H34 D σ F):(e34 F).Ok Try.prog:=okZ (f:=34) Try.func34 fun ⟨x0,x1,x2,_⟩ y hy=>cR hF Try.func34 c34 (t34 H x0 x1 x2 _ ⟨rfl,rfl,rfl⟩ hy)
def zqL:AC:=(rr [jm 39 8,jm 40 10,jv 41 (.bin .shl (jn 1) (.t 40)),jv 42 (.bin .or (.t 39) (.t 41)),jm 8 42])
def zqB:AC:=(.seq (rr [jm 32 7,jm 33 9,jv 34 (.load (.ag [.p]) (.t 6)),jm 35 8,jm 36 10,jx 37 (.call (jf 34) [.t 34,.t 35,.t 36]),jv 38 (.idx (.t 32) (.t 33) 1),jz (.store .s (.t 38) (.t 37))]) zqL)
def zoZ:AC:=(rr [jv 43 (.bin .add (.t 27) (jn 1)),jm 27 43])
def zq6:AC:=(.seq (.block 1 (.seq (rr [jm 29 27,jv 30 (.idx (.t 25) (.t 27) 1),jl 31 30,jm 9 29,jm 10 31]) zqB)) zoZ)
def zoa:AC:=(.seq (.cond (.t 28) .skip (.exit 0)) zq6)
def zgg:AC:=(.seq (rr [jv 28 (.bin .lss (.t 27) (.t 26))]) zoa)
def zlc:AC:=(.seq (.reg [] [jm 44 7,jm 4 44,jv 5 (.mov kt)] [.home 7 4]) .ret)
def zkL:AC:=(.cond (.t 19) (.seq (rr [jv 4 (.mov (.k (.sl .nl .s 0 []))),jv 5 (.mov kf)]) .ret) .skip)
def zlZ:AC:=(.block 0 (.loop zgg))
def zm7:AC:=(.seq (.seq (rr [jm 25 1,jk 26 25,jv 27 (.mov (jn 0))]) zlZ) zlc)
def zm0:AC:=(.seq (rr [jv 8 (.mov (jn 0))]) zm7)
def zm6:AC:=(.seq (.reg [.clr [24]] [jv 22 (.fld (.t 2) 0 0),jl 23 22,jx 24 (.mk (.t 23) i0 i0),jm 7 24] [.home 24 7]) zm0)
def zk8:AC:=(.seq (.reg [.clr [6]] [jv 20 (.load (.ag [.s,.p]) (.t 2)),jx 21 (.call (jf 22) [.t 20]),jx 6 (.alloc (.agg [.sl .nl .s 0 []])),jz (.store (.ag [.p]) (.t 6) (.t 21))] []) zm6)
def zlQ:AC:=(.seq (.seq (rr [jv 11 (.load (.ag [.s,.p]) (.t 2)),jx 12 (.call (jf 20) [.t 11]),jv 13 (.un .not (.t 12)),jm 14 13,jg 15 14 false (.load (.ag [.s,.p]) (.t 2)),jg 16 14 false (.mov (.t 1)),.mk (some 17) (some (14,false)) false (.call (jf 21) [.t 15,.t 16]),jg 18 14 false (.un .not (.t 17)),jv 19 (.pick (.t 14) kt (.t 18))]) zkL) zk8)
def A15:AC:=(.seq (.reg [.clr [2]] [jx 2 (.box (.t 0)),jv 4 (.mov (.k (.sl .nl .s 0 []))),jv 5 (.mov kf)] []) zlQ)
def ztv:List An:=[⟨0,[.clr [2]],[],[],[]⟩,⟨3,[.clr [6]],[],[],[]⟩,⟨4,[.clr [24]],[],[],[.home 24 7]⟩,⟨12,[],[],[],[.home 7 4]⟩]
theorem c15:cq Try.prog Try.f15 ztv=some A15:=by kernel_rfl
structure H15 (D:Den) (σ:Sig) (F:Nat):Prop where
 c20:C20 (D 20) F
 g20:σ 20=some (0,false)
 c21:C21 (D 21) F
 g21:σ 21=some (0,false)
 c22:C22 (D 22) F
 g22:σ 22=some (0,false)
 c34:C34 (D 34) F
 g34:σ 34=some (0,false)
abbrev R15 (r:(LI×Bool)):(Nat→V)→Prop:=RR Try.prog [.tmp 4,.tmp 5] 0 false (.tup [eL r.1,Enc.enc (r.2:Bool)])
section
variable {r:(LI×Bool)}
def vm (F:Nat) (r6:(S1 LI)) (x2:LI) :Nat→LI→Int→Int→Option (LI×Bool)
 | 0,_,_,_=>none
 | k + 1,x12,x13,x14=>
   bif decide (x14 < (x2.length:Int)) then
    (idx x2 x14).bind fun v19=>
    (xx F r6 x13 v19).bind fun r20=>
    (idx x12 x14).bind fun v21=>
    (UE .i64 1 v19).bind fun q22=>
    (vm F r6 x2 k) (x12.set x14.toNat r20) (ior .i64 x13 q22) (w64 (x14 + 1))
   else
    some (x12,true)
theorem zih (H:H15 D σ F) (r6:(S1 LI)) (x2:LI) :∀ (k:Nat) (x12:LI) (x13:Int) (x14:Int) (s:Nat→V),zr [(4,nI),(5,jb false),(6,.ref (.bx 6) 0 [] (.agg [eL r6.a])),(7,oI 7 [] (.of x12)),(8,ji x13),(25,eL x2),(26,ji (x2.length:Int)),(27,ji x14)] s→vm F r6 x2 k x12 x13 x14=some r→Run D σ (R15 r) (.run zgg [.lp zgg,.bk 0,.sq zlc]) s:=by
 intro k
 induction k with
 | zero=>intro x12 x13 x14 s _ h;exact nm h
 | succ k ih=>
   intro x12 x13 x14 s hs h
   rw [vm] at h
   obtain ⟨h4,h5,h6,h7,h8,h25,h26,h27⟩:=hs
   refine .seq (rg (g2 27 26 (jb (decide (x14 < (x2.length:Int)))) h27 h26 fun h28=>gq (.nsq (.seq (zk h28 h (fun h=>?_) (fun h=>?_))))))
   · refine .skip (.nsq (.seq (.block (.seq (rg (gm h27 fun h29=>?_))))))
     obtain ⟨v19,Ev19,h⟩:=zb h
     refine gv (.ref .sh 0 [] (ji v19)) (yn (t:=.sh) (lo:=0) (xs:=x2) h25 h27 Ev19 rfl rfl) fun h30=>g1 30 (ji v19) h30 fun h31=>gm h29 fun h9=>gm h31 fun h10=>gq (.nsq (.seq (rg (gm h7 fun h32=>gm h9 fun h33=>g1 6 (.agg [eL r6.a]) h6 fun h34=>gm h8 fun h35=>gm h10 fun h36=>?_))))
     obtain ⟨r20,Er20,h⟩:=zb h
     refine gcF [Enc.enc (r6:(S1 LI)),Enc.enc (x13:Int),Enc.enc (v19:Int)] (zg h34 rfl (Enc.erase_enc (r6:(S1 LI))) (zg h35 rfl rfl (zg h36 rfl rfl zF))) (H.c34 _ _ _ _ Er20) H.g34 ?_
     obtain ⟨v21,Ev21,h⟩:=zb h
     refine gv (.ref (.at 7 []) x14.toNat [] (ji v21)) (vP (o:=.of x12) h32 h33 Ev21 rfl) fun h38=>yo (ji r20) (zI h38 rfl) (zI rfl rfl) (wo (by first | rfl | simp [V.toks,V.tokss,Enc.toks_enc,ym])) (gz [(4,nI),(5,jb false),(6,.ref (.bx 6) 0 [] (.agg [eL r6.a])),(7,_),(8,ji x13),(10,ji v19),(25,eL x2),(26,ji (x2.length:Int)),(27,ji x14)] ⟨zd h4 rfl,zd h5 rfl,zd h6 (zO rfl rfl (yN (zx uE rfl))),zd h7 W5,zd h8 rfl,zd h10 rfl,zd h25 uE,zd h26 rfl,zd h27 rfl⟩ ?_)
     rintro s ⟨h4,h5,h6,h7,h8,h10,h25,h26,h27⟩
     refine .nsq (rg (gm h8 fun h39=>gm h10 fun h40=>?_))
     obtain ⟨q22,Eq22,h⟩:=zb h
     refine gv (ji q22) (XE rfl h40 Eq22) fun h41=>g2 39 41 (ji (ior .i64 x13 q22)) h39 h41 fun h42=>gm h42 fun h8=>gq (.nbk (.nsq (rg (g1 27 (ji (w64 (x14 + 1))) h27 fun h43=>gm h43 fun h27=>gq (.nlp ?_)))))
     exact ih (x12.set x14.toNat r20) (ior .i64 x13 q22) (w64 (x14 + 1)) _ ⟨h4,h5,h6,h7,h8,h25,h26,h27⟩ h
   refine .exit (.esq (.elp (.ebk (.nsq (.seq (rg (gm h7 fun h44=>gm h44 fun h4=>g0 (jb true) fun h5=>yS (yF (r:=7) (x:=4) (v:=_) h4 rfl (fun s5 hz5=>?_)))))))))
   refine ez [(4,oI 4 [] (.of x12)),(5,jb true)] ⟨hz5 4 _ _ h4 (zp (r:=7) (p:=[]) rfl rfl),hz5 5 _ _ h5 mb⟩ ?_
   rintro s ⟨h4,h5⟩
   refine .nsq (.ret ?_)
   obtain rfl:=oi h
   exact rrB (zl h4) (zl h5) (ZA (Zh (yG (ui (o:=.of x12)) (yG (w7 (x:=(true:Bool))) vt))) (Wp (xc (uo rfl) (xc rfl ut))))
def uk (F:Nat) (x2:LI) (x1:GR)  (x5:Bool):Option (LI×Bool):=
 bif x5 then
  some ([],false)
 else
  (YD F x1).bind fun r6=>
  (mkN x1.1 (0:Int)).bind fun mk7=>
  vm F r6 x2 F mk7 0 0
theorem za3 (H:H15 D σ F) (x2:LI) (x1:GR)  (x5:Bool) (s:Nat→V) (hs:zr [(1,eL x2),(2,bG 2 x1),(4,nI),(5,jb false),(19,jb x5)] s) (h:uk F x2 x1  x5=some r):Run D σ (R15 r) (.nrm [.sq zkL,.sq zk8]) s:=by
 unfold uk at h
 obtain ⟨h1,h2,h4,h5,h19⟩:=hs
 refine .nsq (zk h19 h (fun h=>?_) (fun h=>?_))
 · refine .seq (rg (g0 nI fun h4=>g0 (jb false) fun h5=>gq (.nsq (.ret ?_))))
   obtain rfl:=oi h
   exact rrB (zl h4) (zl h5) (ZA (Zh (yG (ui (o:=(.nil:NL Int)) (t:=.nl)) (yG (w7 (x:=(false:Bool))) vt))) (Wp (xc zbN (xc rfl ut))))
 refine .skip (.nsq (.seq (zC (ye ?_))))
 refine ez [(1,_),(2,_),(4,_),(5,_),(6,_)] ⟨za h1 rfl me,za h2 rfl (zi rfl mIE),za h4 rfl rfl,za h5 rfl mb,ze rfl⟩ ?_
 rintro s ⟨h1,h2,h4,h5,h6⟩
 refine g1 2 (gV x1) h2 fun h20=>?_
 obtain ⟨r6,Er6,h⟩:=zb h
 refine gcF [Enc.enc (x1:GR)] (zg h20 rfl (Enc.erase_enc (x1:GR)) zF) (H.c22 _ _ Er6) H.g22 (xN h6 (yo (.agg [eL r6.a]) (zI rfl rfl) (zI rfl rfl) (wo (by first | rfl | simp [V.toks,V.tokss,Enc.toks_enc,ym])) (gz [(1,eL x2),(2,bG 2 x1),(4,nI),(5,jb false),(6,.ref (.bx 6) 0 [] (.agg [eL r6.a]))] ⟨zd h1 uE,zd h2 (zO rfl rfl uIE),zd h4 rfl,zd h5 rfl,zd rfl rfl⟩ ?_)))
 rintro s ⟨h1,h2,h4,h5,h6⟩
 refine .nsq (.seq (zC (ye ?_)))
 refine ez [(1,_),(2,_),(4,_),(5,_),(6,_),(24,_)] ⟨za h1 rfl me,za h2 rfl (zi rfl mIE),za h4 rfl rfl,za h5 rfl mb,za h6 rfl (zi rfl (z3 (zh me zH))),ze rfl⟩ ?_
 rintro s ⟨h1,h2,h4,h5,h6,h24⟩
 refine g1 2 (.ref (.bx 2) 0 [0] (ji x1.1)) h2 fun h22=>g1 22 (ji x1.1) h22 fun h23=>?_
 obtain ⟨mk7,Emk7,h⟩:=zb h
 refine zlF (0:Int) h23 rfl h24 Emk7 (gm (rf (oI 24 [] (.of mk7))) fun h7=>yS (yF (r:=24) (x:=7) (v:=_) h7 rfl (fun s4 hz4=>?_)))
 refine ez [(1,eL x2),(4,nI),(5,jb false),(6,.ref (.bx 6) 0 [] (.agg [eL r6.a])),(7,oI 7 [] (.of mk7))] ⟨hz4 1 _ _ h1 me,hz4 4 _ _ h4 rfl,hz4 5 _ _ h5 mb,hz4 6 _ _ h6 (zi rfl (z3 (zh me zH))),hz4 7 _ _ h7 (zp (r:=24) (p:=[]) rfl rfl)⟩ ?_
 rintro s ⟨h1,h4,h5,h6,h7⟩
 refine .nsq (.seq (rg (g0 (ji 0) fun h8=>gq (.nsq (.seq (.seq (rg (gm h1 fun h25=>gl x2 h25 fun h26=>g0 (ji 0) fun h27=>gq (.nsq (.block (.loop ?_)))))))))))
 exact zih H r6 x2 F mk7 0 0 _ ⟨h4,h5,h6,h7,h8,h25,h26,h27⟩ h
def xZ (F:Nat) (x1:GR) (x2:LI):Option (LI×Bool):=
 (wW F x1).bind fun r23=>
 bif (!r23) then
  uk F x2 x1 true
 else
  (Zg F x1 x2).bind fun r24=>
  uk F x2 x1 (!r24)
theorem t15 (H:H15 D σ F) (x1:GR) (x2:LI) (s:Nat→V) (hs:zr [(0,gV x1),(1,eL x2)] s) (h:xZ F x1 x2=some r):Run D σ (R15 r) (.run A15 []) s:=by
 unfold xZ at h
 obtain ⟨h0,h1⟩:=hs
 refine .seq (zC (ye ?_))
 refine ez [(0,_),(1,_),(2,_)] ⟨za h0 rfl mIE,za h1 rfl me,ze rfl⟩ ?_
 rintro s ⟨h0,h1,h2⟩
 refine wa (gV x1) (zI h0 rfl) h2 rfl (g0 nI fun h4=>g0 (jb false) fun h5=>gq (.nsq (.seq (.seq (rg (g1 2 (gV x1) (rf (bG 2 x1)) fun h11=>?_))))))
 obtain ⟨r23,Er23,h⟩:=zb h
 refine gcF [Enc.enc (x1:GR)] (zg h11 rfl (Enc.erase_enc (x1:GR)) zF) (H.c20 _ _ Er23) H.g20 (g1 12 (jb (!r23)) (rf (jb r23)) fun h13=>gm h13 fun h14=>z6 h (fun hg4 h=>?_) (fun hg4 h=>?_))
 · iterate 4 refine yJ (ct h14 hg4) ?_
   refine g2 14 18 (jb true) (ct h14 hg4) (rf (.tup [])) fun h19=>gq ?_
   exact za3 H x2 x1 true _ ⟨h1,rfl,h4,h5,h19⟩ h
 refine zo (ct h14 hg4) (g1 2 (gV x1) (rf (bG 2 x1)) fun h15=>zo (ct h14 hg4) (gm h1 fun h16=>?_))
 obtain ⟨r24,Er24,h⟩:=zb h
 refine zo (ct h14 hg4) (gcF [Enc.enc (x1:GR),eL x2] (zg h15 rfl (Enc.erase_enc (x1:GR)) (zg h16 rfl (Enc.erase_enc (x2:LI)) zF)) (H.c21 _ _ _ Er24) H.g21 (zo (ct h14 hg4) (g1 17 (jb (!r24)) (rf (jb r24)) fun h18=>g2 14 18 (jb (!r24)) (ct h14 hg4) h18 fun h19=>gq ?_)))
 exact za3 H x2 x1 (!r24) _ ⟨h1,rfl,h4,h5,h19⟩ h
end
def e15 (F:Nat):Ent:=ent 15 (fun (x:(GR×LI×Unit))=>xZ F x.1 x.2.1) (fun (r:(LI×Bool))=>(.tup [eL r.1,Enc.enc (r.2:Bool)])) 0 false []
abbrev C15 (D:List V→Option V) (F:Nat):Prop:=∀ (x0:GR) (x1:LI) r,xZ F x0 x1=some r→D [Enc.enc x0,Enc.enc x1]=some (.tup [eL r.1,Enc.enc (r.2:Bool)])
theorem p15 {F:Nat}:C15 (e15 F).den F:=fun x0 x1 _ h=>zR (x0,x1,()) h
theorem o15 (hF:zw Try.prog D σ) (H:H15 D σ F):(e15 F).Ok Try.prog:=okZ (f:=15) Try.func15 fun ⟨x0,x1,_⟩ y hy=>cR hF Try.func15 c15 (t15 H x0 x1 _ ⟨rfl,rfl⟩ hy)
def zqp:AC:=(.cond (.t 8) .skip (.exit 0))
def zr3:AC:=(.cond (.t 18) (rr [jm 19 0,jm 20 4,jv 21 (.idx (.t 19) (.t 20) 1),jv 22 (.load .p (.t 21)),jk 23 22,jv 24 (.bin .sub (.t 23) (jn 1)),jm 3 24]) .skip)
def zk9:AC:=(rr [jm 9 4,jv 10 (.bin .add (.t 9) (jn 1)),jm 4 10])
def zqP:AC:=(.seq (.block 1 (.seq (rr [jm 11 0,jm 12 4,jv 13 (.idx (.t 11) (.t 12) 1),jv 14 (.load .p (.t 13)),jk 15 14,jv 16 (.bin .sub (.t 15) (jn 1)),jm 17 3,jv 18 (.bin .gtr (.t 16) (.t 17))]) zr3)) zk9)
def No:AC:=(.seq (.seq (rr [jm 5 4,jm 6 0,jk 7 6,jv 8 (.bin .lss (.t 5) (.t 7))]) zqp) zqP)
def zfc:AC:=(.seq (rr [jm 25 3,jm 2 25]) .ret)
def zpE:AC:=(.block 0 (.loop No))
def zpU:AC:=(.seq (.seq (rr [jv 4 (.mov (jn 0))]) zpE) zfc)
def zqz:AC:=(.seq (rr [jv 3 (.mov (jn 0))]) zpU)
def A16:AC:=(.seq (rr [jv 2 (.mov (jn 0))]) zqz)
def zup:List An:=[]
theorem c16:cq Try.prog Try.f16 zup=some A16:=by kernel_rfl
structure H16 (D:Den) (σ:Sig) (F:Nat):Prop where
 mk ::
abbrev R16 (r:Int):(Nat→V)→Prop:=RR Try.prog [.tmp 2] 0 false (Enc.enc (r:Int))
section
variable {r:Int}
def YJ (F:Nat) (x1:(List LI)) (x7:Int) (c1:Int→Int→Option Int) (x14:Int):Option Int:=
 c1 x14 (w64 (x7 + 1))
theorem zbg (H:H16 D σ F) (x1:(List LI)) (x7:Int) (c1:Int→Int→Option Int) (Hc1:∀ (x6:Int) (x7:Int) (s:Nat→V),zr [(0,Enc.enc (x1:List LI)),(2,ji 0),(3,ji x6),(4,ji x7)] s→c1 x6 x7=some r→Run D σ (R16 r) (.run No [.lp No,.bk 0,.sq zfc]) s) (x14:Int) (s:Nat→V) (hs:zr [(0,Enc.enc (x1:List LI)),(2,ji 0),(3,ji x14),(4,ji x7)] s) (h:YJ F x1 x7 c1 x14=some r):Run D σ (R16 r) (.nrm [.bk 1,.sq zk9,.lp No,.bk 0,.sq zfc]) s:=by
 unfold YJ at h
 obtain ⟨h0,h2,h3,h4⟩:=hs
 refine .nbk (.nsq (rg (gm h4 fun h9=>g1 9 (ji (w64 (x7 + 1))) h9 fun h10=>gm h10 fun h4=>gq (.nlp ?_))))
 exact Hc1 x14 (w64 (x7 + 1)) _ ⟨h0,h2,h3,h4⟩ h
def wV (F:Nat) (x1:(List LI)) :Nat→Int→Int→Option Int
 | 0,_,_=>none
 | k + 1,x6,x7=>
   bif decide (x7 < (x1.length:Int)) then
    (idx x1 x7).bind fun v12=>
    bif decide ((w64 ((v12.length:Int) - 1)) > x6) then
     (idx x1 x7).bind fun v15=>
     YJ F x1 x7 (wV F x1 k) (w64 ((v15.length:Int) - 1))
    else
     YJ F x1 x7 (wV F x1 k) x6
   else
    some x6
theorem zgy (H:H16 D σ F) (x1:(List LI)) :∀ (k:Nat) (x6:Int) (x7:Int) (s:Nat→V),zr [(0,Enc.enc (x1:List LI)),(2,ji 0),(3,ji x6),(4,ji x7)] s→wV F x1 k x6 x7=some r→Run D σ (R16 r) (.run No [.lp No,.bk 0,.sq zfc]) s:=by
 intro k
 induction k with
 | zero=>intro x6 x7 s _ h;exact nm h
 | succ k ih=>
   intro x6 x7 s hs h
   rw [wV] at h
   obtain ⟨h0,h2,h3,h4⟩:=hs
   refine .seq (.seq (rg (gm h4 fun h5=>gm h0 fun h6=>gl x1 h6 fun h7=>g2 5 7 (jb (decide (x7 < (x1.length:Int)))) h5 h7 fun h8=>gq (.nsq (zk h8 h (fun h=>?_) (fun h=>?_))))))
   · refine .skip (.nsq (.seq (.block (.seq (rg (gm h0 fun h11=>gm h4 fun h12=>?_))))))
     obtain ⟨v12,Ev12,h⟩:=zb h
     refine gv (.ref .sh 0 [] (eL v12)) (yn (t:=.sh) (lo:=0) (xs:=x1) h11 h12 Ev12 rfl rfl) fun h13=>g1 13 (eL v12) h13 fun h14=>gl v12 h14 fun h15=>g1 15 (ji (w64 ((v12.length:Int) - 1))) h15 fun h16=>gm h3 fun h17=>g2 16 17 (jb (decide ((w64 ((v12.length:Int) - 1)) > x6))) h16 h17 fun h18=>gq (.nsq (zk h18 h (fun h=>?_) (fun h=>?_)))
     · refine rg (gm h0 fun h19=>gm h4 fun h20=>?_)
       obtain ⟨v15,Ev15,h⟩:=zb h
       refine gv (.ref .sh 0 [] (eL v15)) (yn (t:=.sh) (lo:=0) (xs:=x1) h19 h20 Ev15 rfl rfl) fun h21=>g1 21 (eL v15) h21 fun h22=>gl v15 h22 fun h23=>g1 23 (ji (w64 ((v15.length:Int) - 1))) h23 fun h24=>gm h24 fun h3=>gq ?_
       exact zbg H x1 x7 (wV F x1 k) ih (w64 ((v15.length:Int) - 1)) _ ⟨h0,h2,h3,h4⟩ h
     refine .skip ?_
     exact zbg H x1 x7 (wV F x1 k) ih x6 _ ⟨h0,h2,h3,h4⟩ h
   refine .exit (.esq (.elp (.ebk (.nsq (.seq (rg (gm h3 fun h25=>gm h25 fun h2=>gq (.nsq (.ret ?_)))))))))
   obtain rfl:=oi h
   exact rrA (zl h2) rfl
def uF (F:Nat) (x1:(List LI)):Option Int:=
 wV F x1 F 0 0
theorem t16 (H:H16 D σ F) (x1:(List LI)) (s:Nat→V) (hs:zr [(0,Enc.enc (x1:List LI))] s) (h:uF F x1=some r):Run D σ (R16 r) (.run A16 []) s:=by
 unfold uF at h
 have h0:=hs
 refine .seq (rg (g0 (ji 0) fun h2=>gq (.nsq (.seq (rg (g0 (ji 0) fun h3=>gq (.nsq (.seq (.seq (rg (g0 (ji 0) fun h4=>gq (.nsq (.block (.loop ?_))))))))))))))
 exact zgy H x1 F 0 0 _ ⟨h0,h2,h3,h4⟩ h
end
def e16 (F:Nat):Ent:=ent 16 (fun (x:((List LI)×Unit))=>uF F x.1) (fun (r:Int)=>(Enc.enc (r:Int))) 0 false []
abbrev C16 (D:List V→Option V) (F:Nat):Prop:=∀ (x0:(List LI)) r,uF F x0=some r→D [Enc.enc x0]=some (Enc.enc (r:Int))
theorem p16 {F:Nat}:C16 (e16 F).den F:=fun x0 _ h=>zR (x0,()) h
theorem o16 (hF:zw Try.prog D σ) (H:H16 D σ F):(e16 F).Ok Try.prog:=okZ (f:=16) Try.func16 fun ⟨x0,_⟩ y hy=>cR hF Try.func16 c16 (t16 H x0 _ rfl hy)
def zrQ:AC:=(.cond (.t 8) .skip (.exit 0))
def zpi:AC:=(.cond (.t 16) (rr [jm 17 0,jm 18 4,jv 19 (.idx (.t 17) (.t 18) 1),jl 20 19,jm 3 20]) .skip)
def zkY:AC:=(rr [jm 9 4,jv 10 (.bin .add (.t 9) (jn 1)),jm 4 10])
def znL:AC:=(.seq (.block 1 (.seq (rr [jm 11 0,jm 12 4,jv 13 (.idx (.t 11) (.t 12) 1),jl 14 13,jm 15 3,jv 16 (.bin .gtr (.t 14) (.t 15))]) zpi)) zkY)
def NK:AC:=(.seq (.seq (rr [jm 5 4,jm 6 0,jk 7 6,jv 8 (.bin .lss (.t 5) (.t 7))]) zrQ) znL)
def zd8:AC:=(.seq (rr [jm 21 3,jm 2 21]) .ret)
def zn8:AC:=(.block 0 (.loop NK))
def zpW:AC:=(.seq (.seq (rr [jv 4 (.mov (jn 0))]) zn8) zd8)
def zpI:AC:=(.seq (rr [jv 3 (.mov (jn 0))]) zpW)
def A17:AC:=(.seq (rr [jv 2 (.mov (jn 0))]) zpI)
def zuL:List An:=[]
theorem c17:cq Try.prog Try.f17 zuL=some A17:=by kernel_rfl
structure H17 (D:Den) (σ:Sig) (F:Nat):Prop where
 mk ::
abbrev R17 (r:Int):(Nat→V)→Prop:=RR Try.prog [.tmp 2] 0 false (Enc.enc (r:Int))
section
variable {r:Int}
def X1 (F:Nat) (x1:LI) (x7:Int) (c1:Int→Int→Option Int) (x14:Int):Option Int:=
 c1 x14 (w64 (x7 + 1))
theorem zbs (H:H17 D σ F) (x1:LI) (x7:Int) (c1:Int→Int→Option Int) (Hc1:∀ (x6:Int) (x7:Int) (s:Nat→V),zr [(0,eL x1),(2,ji 0),(3,ji x6),(4,ji x7)] s→c1 x6 x7=some r→Run D σ (R17 r) (.run NK [.lp NK,.bk 0,.sq zd8]) s) (x14:Int) (s:Nat→V) (hs:zr [(0,eL x1),(2,ji 0),(3,ji x14),(4,ji x7)] s) (h:X1 F x1 x7 c1 x14=some r):Run D σ (R17 r) (.nrm [.bk 1,.sq zkY,.lp NK,.bk 0,.sq zd8]) s:=by
 unfold X1 at h
 obtain ⟨h0,h2,h3,h4⟩:=hs
 refine .nbk (.nsq (rg (gm h4 fun h9=>g1 9 (ji (w64 (x7 + 1))) h9 fun h10=>gm h10 fun h4=>gq (.nlp ?_))))
 exact Hc1 x14 (w64 (x7 + 1)) _ ⟨h0,h2,h3,h4⟩ h
def vO (F:Nat) (x1:LI) :Nat→Int→Int→Option Int
 | 0,_,_=>none
 | k + 1,x6,x7=>
   bif decide (x7 < (x1.length:Int)) then
    (idx x1 x7).bind fun v12=>
    bif decide (v12 > x6) then
     (idx x1 x7).bind fun v15=>
     X1 F x1 x7 (vO F x1 k) v15
    else
     X1 F x1 x7 (vO F x1 k) x6
   else
    some x6
theorem zgc (H:H17 D σ F) (x1:LI) :∀ (k:Nat) (x6:Int) (x7:Int) (s:Nat→V),zr [(0,eL x1),(2,ji 0),(3,ji x6),(4,ji x7)] s→vO F x1 k x6 x7=some r→Run D σ (R17 r) (.run NK [.lp NK,.bk 0,.sq zd8]) s:=by
 intro k
 induction k with
 | zero=>intro x6 x7 s _ h;exact nm h
 | succ k ih=>
   intro x6 x7 s hs h
   rw [vO] at h
   obtain ⟨h0,h2,h3,h4⟩:=hs
   refine .seq (.seq (rg (gm h4 fun h5=>gm h0 fun h6=>gl x1 h6 fun h7=>g2 5 7 (jb (decide (x7 < (x1.length:Int)))) h5 h7 fun h8=>gq (.nsq (zk h8 h (fun h=>?_) (fun h=>?_))))))
   · refine .skip (.nsq (.seq (.block (.seq (rg (gm h0 fun h11=>gm h4 fun h12=>?_))))))
     obtain ⟨v12,Ev12,h⟩:=zb h
     refine gv (.ref .sh 0 [] (ji v12)) (yn (t:=.sh) (lo:=0) (xs:=x1) h11 h12 Ev12 rfl rfl) fun h13=>g1 13 (ji v12) h13 fun h14=>gm h3 fun h15=>g2 14 15 (jb (decide (v12 > x6))) h14 h15 fun h16=>gq (.nsq (zk h16 h (fun h=>?_) (fun h=>?_)))
     · refine rg (gm h0 fun h17=>gm h4 fun h18=>?_)
       obtain ⟨v15,Ev15,h⟩:=zb h
       refine gv (.ref .sh 0 [] (ji v15)) (yn (t:=.sh) (lo:=0) (xs:=x1) h17 h18 Ev15 rfl rfl) fun h19=>g1 19 (ji v15) h19 fun h20=>gm h20 fun h3=>gq ?_
       exact zbs H x1 x7 (vO F x1 k) ih v15 _ ⟨h0,h2,h3,h4⟩ h
     refine .skip ?_
     exact zbs H x1 x7 (vO F x1 k) ih x6 _ ⟨h0,h2,h3,h4⟩ h
   refine .exit (.esq (.elp (.ebk (.nsq (.seq (rg (gm h3 fun h21=>gm h21 fun h2=>gq (.nsq (.ret ?_)))))))))
   obtain rfl:=oi h
   exact rrA (zl h2) rfl
def YE (F:Nat) (x1:LI):Option Int:=
 vO F x1 F 0 0
theorem t17 (H:H17 D σ F) (x1:LI) (s:Nat→V) (hs:zr [(0,eL x1)] s) (h:YE F x1=some r):Run D σ (R17 r) (.run A17 []) s:=by
 unfold YE at h
 have h0:=hs
 refine .seq (rg (g0 (ji 0) fun h2=>gq (.nsq (.seq (rg (g0 (ji 0) fun h3=>gq (.nsq (.seq (.seq (rg (g0 (ji 0) fun h4=>gq (.nsq (.block (.loop ?_))))))))))))))
 exact zgc H x1 F 0 0 _ ⟨h0,h2,h3,h4⟩ h
end
def e17 (F:Nat):Ent:=ent 17 (fun (x:(LI×Unit))=>YE F x.1) (fun (r:Int)=>(Enc.enc (r:Int))) 0 false []
abbrev C17 (D:List V→Option V) (F:Nat):Prop:=∀ (x0:LI) r,YE F x0=some r→D [Enc.enc x0]=some (Enc.enc (r:Int))
theorem p17 {F:Nat}:C17 (e17 F).den F:=fun x0 _ h=>zR (x0,()) h
theorem o17 (hF:zw Try.prog D σ) (H:H17 D σ F):(e17 F).Ok Try.prog:=okZ (f:=17) Try.func17 fun ⟨x0,_⟩ y hy=>cR hF Try.func17 c17 (t17 H x0 _ rfl hy)
def zrc:AC:=(.seq (rr [jv 3 (.fld (.t 1) 0 0),jv 4 (.load .p (.t 3)),jk 5 4,jv 6 (.bin .shl (jn 1) (.t 5)),jv 7 (.bin .sub (.t 6) (jn 1)),jm 2 7]) .ret)
def A80:AC:=(.seq (.reg [.clr [1]] [jx 1 (.box (.t 0)),jv 2 (.mov (jn 0))] []) zrc)
def zuv:List An:=[⟨0,[.clr [1]],[],[],[]⟩]
theorem c80:cq Try.prog Try.f80 zuv=some A80:=by kernel_rfl
structure H80 (D:Den) (σ:Sig) (F:Nat):Prop where
 mk ::
abbrev R80 (r:Int):(Nat→V)→Prop:=RR Try.prog [.tmp 2] 0 false (Enc.enc (r:Int))
section
variable {r:Int}
def Zu (F:Nat) (x1:(S1 LI)):Option Int:=
 (UE .i64 1 (x1.a.length:Int)).bind fun q2=>
 some (w64 (q2 - 1))
theorem t80 (H:H80 D σ F) (x1:(S1 LI)) (s:Nat→V) (hs:zr [(0,.agg [eL x1.a])] s) (h:Zu F x1=some r):Run D σ (R80 r) (.run A80 []) s:=by
 unfold Zu at h
 have h0:=hs
 refine .seq (zC (ye ?_))
 refine ez [(0,_),(1,_)] ⟨za h0 rfl (z3 (zh me zH)),ze rfl⟩ ?_
 rintro s ⟨h0,h1⟩
 refine wa (.agg [eL x1.a]) (zI h0 rfl) h1 rfl (g0 (ji 0) fun h2=>gq (.nsq (.seq (rg (g1 1 (.ref (.bx 1) 0 [0] (eL x1.a)) (rf (.ref (.bx 1) 0 [] (.agg [eL x1.a]))) fun h3=>g1 3 (eL x1.a) h3 fun h4=>gl x1.a h4 fun h5=>?_)))))
 obtain ⟨q2,Eq2,h⟩:=zb h
 refine gv (ji q2) (XE rfl h5 Eq2) fun h6=>g1 6 (ji (w64 (q2 - 1))) h6 fun h7=>gm h7 fun h2=>gq (.nsq (.ret ?_))
 obtain rfl:=oi h
 exact rrA (zl h2) rfl
end
def e80 (F:Nat):Ent:=ent 80 (fun (x:((S1 LI)×Unit))=>Zu F x.1) (fun (r:Int)=>(Enc.enc (r:Int))) 0 false []
abbrev C80 (D:List V→Option V) (F:Nat):Prop:=∀ (x0:(S1 LI)) r,Zu F x0=some r→D [Enc.enc x0]=some (Enc.enc (r:Int))
theorem p80 {F:Nat}:C80 (e80 F).den F:=fun x0 _ h=>zR (x0,()) h
theorem o80 (hF:zw Try.prog D σ) (H:H80 D σ F):(e80 F).Ok Try.prog:=okZ (f:=80) Try.func80 fun ⟨x0,_⟩ y hy=>cR hF Try.func80 c80 (t80 H x0 _ rfl hy)
def zjh:AC:=(.cond (.t 19) .skip (.exit 0))
def zck:AC:=(.cond (.t 58) (rr [jm 59 7,jm 60 8,jm 61 11,jv 62 (.idx (.t 59) (.t 60) 1),jz (.store .s (.t 62) (.t 61))]) .skip)
def zhk:AC:=(.seq (rr [jm 49 9,jv 50 (.bin .eql (.t 49) (jn 0)),jm 51 50,jg 52 51 false (.mov (.t 11)),jg 53 51 false (.mov (.t 7)),jg 54 51 false (.mov (.t 8)),jg 55 51 false (.idx (.t 53) (.t 54) 1),jg 56 51 false (.load .s (.t 55)),jg 57 51 false (.bin .lss (.t 52) (.t 56)),jv 58 (.pick (.t 51) kt (.t 57))]) zck)
def zjP:AC:=(.seq (rr [jm 37 2,jm 38 8,jm 39 10,jx 40 (.call (.t 37) [.t 38,.t 39]),jm 41 7,jm 42 8,jm 43 10,jv 44 (.bin .shl (jn 1) (.t 43)),jv 45 (.bin .or (.t 42) (.t 44)),jv 46 (.idx (.t 41) (.t 45) 1),jl 47 46,jv 48 (.mx [.t 40,.t 47]),jm 11 48]) zhk)
def MX:AC:=(rr [jv 63 (.bin .add (.t 32) (jn 1)),jm 32 63])
def zja:AC:=(.seq (.block 3 (.seq (rr [jm 34 32,jv 35 (.idx (.t 30) (.t 32) 1),jl 36 35,jm 9 34,jm 10 36]) zjP)) MX)
def zjS:AC:=(.seq (.cond (.t 33) .skip (.exit 2)) zja)
def Xf:AC:=(.seq (rr [jv 33 (.bin .lss (.t 32) (.t 31))]) zjS)
def zj0:AC:=(.block 2 (.loop Xf))
def ziS:AC:=(.seq (rr [jv 26 (.load (.ag [.p]) (.t 3)),jx 27 (.call (jf 80) [.t 26]),jm 28 8,jv 29 (.bin .andNot (.t 27) (.t 28)),jx 30 (.call (jf 23) [.t 29]),jk 31 30,jv 32 (.mov (jn 0))]) zj0)
def WC:AC:=(rr [jm 20 8,jv 21 (.bin .sub (.t 20) (jn 1)),jm 8 21])
def zjK:AC:=(.seq (.block 1 (.seq (rr [jm 22 7,jm 23 8,jm 24 1,jv 25 (.idx (.t 22) (.t 23) 1),jz (.store .s (.t 25) (.t 24))]) ziS)) WC)
def uA:AC:=(.seq (.seq (rr [jm 18 8,jv 19 (.bin .geq (.t 18) (jn 0))]) zjh) zjK)
def ZB:AC:=(.seq (.reg [] [jm 64 7,jm 6 64] [.home 7 6]) .ret)
def ziB:AC:=(.block 0 (.loop uA))
def zgQ:AC:=(.seq (.seq (rr [jv 16 (.load (.ag [.p]) (.t 3)),jx 17 (.call (jf 80) [.t 16]),jm 8 17]) ziB) ZB)
def zhu:AC:=(.seq (.reg [.clr [15]] [jv 12 (.load (.ag [.p]) (.t 3)),jx 13 (.call (jf 80) [.t 12]),jv 14 (.bin .add (.t 13) (jn 1)),jx 15 (.mk (.t 14) i0 i0),jm 7 15] [.home 15 7]) zgQ)
def zkS:AC:=(.seq (.reg [.clr [3]] [jx 3 (.box (.t 0)),jv 6 (.mov (.k (.sl .nl .s 0 [])))] []) zhu)
def zlz:List An:=[⟨0,[.clr [3]],[],[],[]⟩,⟨1,[.clr [15]],[],[],[.home 15 7]⟩,⟨13,[],[],[],[.home 7 6]⟩]
theorem c61s1:cq Try.prog Try.f61 zlz=some zkS:=by kernel_rfl
structure NX (D:Den) (σ:Sig) (F:Nat):Prop where
 c80:C80 (D 80) F
 g80:σ 80=some (0,false)
 c23:C23 (D 23) F
 g23:σ 23=some (0,false)
 c34:C34 (D 34) F
 g34:σ 34=some (0,false)
abbrev Jk (r:LI):(Nat→V)→Prop:=RR Try.prog [.tmp 6] 0 false (eL r)
section
variable {r:LI}
def yB (F:Nat) (x2:Int) (x3:(Cl 34 ((S1 LI)×Unit) Unit)) (x1:(S1 LI)) (x43:Int) (r81:LI) (x93:Int) (c1:LI→Int→Option LI) (c4:LI→Int→Option LI) (x111:LI):Option LI:=
 c4 x111 (w64 (x93 + 1))
theorem LP (H:NX D σ F) (x2:Int) (x3:(Cl 34 ((S1 LI)×Unit) Unit)) (x1:(S1 LI)) (x43:Int) (r81:LI) (x93:Int) (c1:LI→Int→Option LI) (Hc1:∀ (x42:LI) (x43:Int) (s:Nat→V),zr [(1,ji x2),(2,.fn 34 [.agg [eL x3.fs.1.a]] []),(3,.ref (.bx 3) 0 [] (.agg [eL x1.a])),(6,nI),(7,oI 7 [] (.of x42)),(8,ji x43)] s→c1 x42 x43=some r→Run D σ (Jk r) (.run uA [.lp uA,.bk 0,.sq ZB]) s) (c4:LI→Int→Option LI) (Hc4:∀ (x92:LI) (x93:Int) (s:Nat→V),zr [(1,ji x2),(2,.fn 34 [.agg [eL x3.fs.1.a]] []),(3,.ref (.bx 3) 0 [] (.agg [eL x1.a])),(6,nI),(7,oI 7 [] (.of x92)),(8,ji x43),(30,eL r81),(31,ji (r81.length:Int)),(32,ji x93)] s→c4 x92 x93=some r→Run D σ (Jk r) (.run Xf [.lp Xf,.bk 2,.bk 1,.sq WC,.lp uA,.bk 0,.sq ZB]) s) (x111:LI) (s:Nat→V) (hs:zr [(1,ji x2),(2,.fn 34 [.agg [eL x3.fs.1.a]] []),(3,.ref (.bx 3) 0 [] (.agg [eL x1.a])),(6,nI),(7,oI 7 [] (.of x111)),(8,ji x43),(30,eL r81),(31,ji (r81.length:Int)),(32,ji x93)] s) (h:yB F x2 x3 x1 x43 r81 x93 c1 c4 x111=some r):Run D σ (Jk r) (.nrm [.bk 3,.sq MX,.lp Xf,.bk 2,.bk 1,.sq WC,.lp uA,.bk 0,.sq ZB]) s:=by
 unfold yB at h
 obtain ⟨h1,h2,h3,h6,h7,h8,h30,h31,h32⟩:=hs
 refine .nbk (.nsq (rg (g1 32 (ji (w64 (x93 + 1))) h32 fun h63=>gm h63 fun h32=>gq (.nlp ?_))))
 exact Hc4 x111 (w64 (x93 + 1)) _ ⟨h1,h2,h3,h6,h7,h8,h30,h31,h32⟩ h
def yC (F:Nat) (x2:Int) (x3:(Cl 34 ((S1 LI)×Unit) Unit)) (x1:(S1 LI)) (x92:LI) (x43:Int) (v107:Int) (r105:Int) (r81:LI) (x93:Int) (c1:LI→Int→Option LI) (c4:LI→Int→Option LI) (x109:Bool):Option LI:=
 bif x109 then
  (idx x92 x43).bind fun v112=>
  yB F x2 x3 x1 x43 r81 x93 c1 c4 (x92.set x43.toNat (if v107 > r105 then v107 else r105))
 else
  yB F x2 x3 x1 x43 r81 x93 c1 c4 x92
theorem Mc (H:NX D σ F) (x2:Int) (x3:(Cl 34 ((S1 LI)×Unit) Unit)) (x1:(S1 LI)) (x92:LI) (x43:Int) (v107:Int) (r105:Int) (r81:LI) (x93:Int) (c1:LI→Int→Option LI) (Hc1:∀ (x42:LI) (x43:Int) (s:Nat→V),zr [(1,ji x2),(2,.fn 34 [.agg [eL x3.fs.1.a]] []),(3,.ref (.bx 3) 0 [] (.agg [eL x1.a])),(6,nI),(7,oI 7 [] (.of x42)),(8,ji x43)] s→c1 x42 x43=some r→Run D σ (Jk r) (.run uA [.lp uA,.bk 0,.sq ZB]) s) (c4:LI→Int→Option LI) (Hc4:∀ (x92:LI) (x93:Int) (s:Nat→V),zr [(1,ji x2),(2,.fn 34 [.agg [eL x3.fs.1.a]] []),(3,.ref (.bx 3) 0 [] (.agg [eL x1.a])),(6,nI),(7,oI 7 [] (.of x92)),(8,ji x43),(30,eL r81),(31,ji (r81.length:Int)),(32,ji x93)] s→c4 x92 x93=some r→Run D σ (Jk r) (.run Xf [.lp Xf,.bk 2,.bk 1,.sq WC,.lp uA,.bk 0,.sq ZB]) s) (x109:Bool) (s:Nat→V) (hs:zr [(1,ji x2),(2,.fn 34 [.agg [eL x3.fs.1.a]] []),(3,.ref (.bx 3) 0 [] (.agg [eL x1.a])),(6,nI),(7,oI 7 [] (.of x92)),(8,ji x43),(11,ji (if v107 > r105 then v107 else r105)),(30,eL r81),(31,ji (r81.length:Int)),(32,ji x93),(58,jb x109)] s) (h:yC F x2 x3 x1 x92 x43 v107 r105 r81 x93 c1 c4 x109=some r):Run D σ (Jk r) (.nrm [.sq zck,.bk 3,.sq MX,.lp Xf,.bk 2,.bk 1,.sq WC,.lp uA,.bk 0,.sq ZB]) s:=by
 unfold yC at h
 obtain ⟨h1,h2,h3,h6,h7,h8,h11,h30,h31,h32,h58⟩:=hs
 refine .nsq (zk h58 h (fun h=>?_) (fun h=>?_))
 · refine rg (gm h7 fun h59=>gm h8 fun h60=>gm h11 fun h61=>?_)
   obtain ⟨v112,Ev112,h⟩:=zb h
   refine gv (.ref (.at 7 []) x43.toNat [] (ji v112)) (vP (o:=.of x92) h59 h60 Ev112 rfl) fun h62=>yo (ji (if v107 > r105 then v107 else r105)) (zI h62 rfl) (zI h61 rfl) (wo (by first | rfl | simp [V.toks,V.tokss,Enc.toks_enc,ym])) ?_
   refine gz [(1,ji x2),(2,.fn 34 [.agg [eL x3.fs.1.a]] []),(3,.ref (.bx 3) 0 [] (.agg [eL x1.a])),(6,nI),(7,_),(8,ji x43),(30,eL r81),(31,ji (r81.length:Int)),(32,ji x93)] ⟨zd h1 rfl,zd h2 (ziM (zx (yN (zx uE rfl)) rfl) rfl),zd h3 (zO rfl rfl (yN (zx uE rfl))),zd h6 rfl,zd h7 W5,zd h8 rfl,zd h30 uE,zd h31 rfl,zd h32 rfl⟩ ?_
   rintro s ⟨h1,h2,h3,h6,h7,h8,h30,h31,h32⟩
   exact LP H x2 x3 x1 x43 r81 x93 c1 Hc1 c4 Hc4 (x92.set x43.toNat (if v107 > r105 then v107 else r105)) _ ⟨h1,h2,h3,h6,h7,h8,h30,h31,h32⟩ h
 refine .skip ?_
 exact LP H x2 x3 x1 x43 r81 x93 c1 Hc1 c4 Hc4 x92 _ ⟨h1,h2,h3,h6,h7,h8,h30,h31,h32⟩ h
def zN (F:Nat) (x2:Int) (x3:(Cl 34 ((S1 LI)×Unit) Unit)) (x1:(S1 LI)) (x43:Int) (r81:LI) (c1:LI→Int→Option LI):Nat→LI→Int→Option LI
 | 0,_,_=>none
 | k + 1,x92,x93=>
   bif decide (x93 < (r81.length:Int)) then
    (idx r81 x93).bind fun v104=>
    (xx F x3.fs.1 x43 v104).bind fun r105=>
    (UE .i64 1 v104).bind fun q106=>
    (idx x92 (ior .i64 x43 q106)).bind fun v107=>
    bif (x93 == 0) then
     yC F x2 x3 x1 x92 x43 v107 r105 r81 x93 c1 (zN F x2 x3 x1 x43 r81 c1 k) true
    else
     (idx x92 x43).bind fun v113=>
     yC F x2 x3 x1 x92 x43 v107 r105 r81 x93 c1 (zN F x2 x3 x1 x43 r81 c1 k) (decide ((if v107 > r105 then v107 else r105) < v113))
   else
    c1 x92 (w64 (x43 - 1))
theorem zcE (H:NX D σ F) (x2:Int) (x3:(Cl 34 ((S1 LI)×Unit) Unit)) (x1:(S1 LI)) (x43:Int) (r81:LI) (c1:LI→Int→Option LI) (Hc1:∀ (x42:LI) (x43:Int) (s:Nat→V),zr [(1,ji x2),(2,.fn 34 [.agg [eL x3.fs.1.a]] []),(3,.ref (.bx 3) 0 [] (.agg [eL x1.a])),(6,nI),(7,oI 7 [] (.of x42)),(8,ji x43)] s→c1 x42 x43=some r→Run D σ (Jk r) (.run uA [.lp uA,.bk 0,.sq ZB]) s):∀ (k:Nat) (x92:LI) (x93:Int) (s:Nat→V),zr [(1,ji x2),(2,.fn 34 [.agg [eL x3.fs.1.a]] []),(3,.ref (.bx 3) 0 [] (.agg [eL x1.a])),(6,nI),(7,oI 7 [] (.of x92)),(8,ji x43),(30,eL r81),(31,ji (r81.length:Int)),(32,ji x93)] s→zN F x2 x3 x1 x43 r81 c1 k x92 x93=some r→Run D σ (Jk r) (.run Xf [.lp Xf,.bk 2,.bk 1,.sq WC,.lp uA,.bk 0,.sq ZB]) s:=by
 intro k
 induction k with
 | zero=>intro x92 x93 s _ h;exact nm h
 | succ k ih=>
   intro x92 x93 s hs h
   rw [zN] at h
   obtain ⟨h1,h2,h3,h6,h7,h8,h30,h31,h32⟩:=hs
   refine .seq (rg (g2 32 31 (jb (decide (x93 < (r81.length:Int)))) h32 h31 fun h33=>gq (.nsq (.seq (zk h33 h (fun h=>?_) (fun h=>?_))))))
   · refine .skip (.nsq (.seq (.block (.seq (rg (gm h32 fun h34=>?_))))))
     obtain ⟨v104,Ev104,h⟩:=zb h
     refine gv (.ref .sh 0 [] (ji v104)) (yn (t:=.sh) (lo:=0) (xs:=r81) h30 h32 Ev104 rfl rfl) fun h35=>g1 35 (ji v104) h35 fun h36=>gm h34 fun h9=>gm h36 fun h10=>gq (.nsq (.seq (rg (gm h2 fun h37=>gm h8 fun h38=>gm h10 fun h39=>?_))))
     obtain ⟨r105,Er105,h⟩:=zb h
     refine LD (m:=0) (al:=false) (r:=Enc.enc (r105:Int)) (fs:=[.agg [eL x3.fs.1.a]]) (env:=[]) (us:=[Enc.enc (x3.fs.1:(S1 LI))]) (ws:=[]) h37 (xP (Enc.erase_enc (x3.fs.1:(S1 LI))) yL) yL rfl [Enc.enc (x43:Int),Enc.enc (v104:Int)] (zg h38 rfl rfl (zg h39 rfl rfl zF)) (H.c34 _ _ _ _ Er105) H.g34 rfl rfl rfl rfl (gm h7 fun h41=>gm h8 fun h42=>gm h10 fun h43=>?_)
     obtain ⟨q106,Eq106,h⟩:=zb h
     refine gv (ji q106) (XE rfl h43 Eq106) fun h44=>g2 42 44 (ji (ior .i64 x43 q106)) h42 h44 fun h45=>?_
     obtain ⟨v107,Ev107,h⟩:=zb h
     refine gv (.ref (.at 7 []) ((ior .i64 x43 q106).toNat) [] (ji v107)) (vP (o:=.of x92) h41 h45 Ev107 rfl) fun h46=>g1 46 (ji v107) h46 fun h47=>g2 40 47 (ji (if v107 > r105 then v107 else r105)) (rf (ji r105)) h47 fun h48=>gm h48 fun h11=>gq (.nsq (.seq (rg (gm h9 fun h49=>g1 49 (jb (x93 == 0)) h49 fun h50=>gm h50 fun h51=>z6 h (fun hg3 h=>?_) (fun hg3 h=>?_)))))
     · iterate 6 refine yJ (ct h51 hg3) ?_
       refine g2 51 57 (jb true) (ct h51 hg3) (rf (.tup [])) fun h58=>gz [(1,_),(2,_),(3,_),(6,_),(7,_),(8,_),(11,_),(30,_),(31,_),(32,_),(58,_)] ⟨h1,h2,h3,h6,h7,h8,h11,h30,h31,h32,h58⟩ ?_
       rintro s ⟨h1,h2,h3,h6,h7,h8,h11,h30,h31,h32,h58⟩
       exact Mc H x2 x3 x1 x92 x43 v107 r105 r81 x93 c1 Hc1 (zN F x2 x3 x1 x43 r81 c1 k) ih true _ ⟨h1,h2,h3,h6,h7,h8,h11,h30,h31,h32,h58⟩ h
     refine zo (ct h51 hg3) (gm h11 fun h52=>zo (ct h51 hg3) (gm h7 fun h53=>zo (ct h51 hg3) (gm h8 fun h54=>?_)))
     obtain ⟨v113,Ev113,h⟩:=zb h
     refine zo (ct h51 hg3) (gv (.ref (.at 7 []) x43.toNat [] (ji v113)) (vP (o:=.of x92) h53 h54 Ev113 rfl) fun h55=>zo (ct h51 hg3) (g1 55 (ji v113) h55 fun h56=>zo (ct h51 hg3) (g2 52 56 (jb (decide ((if v107 > r105 then v107 else r105) < v113))) h52 h56 fun h57=>g2 51 57 (jb (decide ((if v107 > r105 then v107 else r105) < v113))) (ct h51 hg3) h57 fun h58=>gz [(1,_),(2,_),(3,_),(6,_),(7,_),(8,_),(11,_),(30,_),(31,_),(32,_),(58,_)] ⟨h1,h2,h3,h6,h7,h8,h11,h30,h31,h32,h58⟩ ?_)))
     rintro s ⟨h1,h2,h3,h6,h7,h8,h11,h30,h31,h32,h58⟩
     exact Mc H x2 x3 x1 x92 x43 v107 r105 r81 x93 c1 Hc1 (zN F x2 x3 x1 x43 r81 c1 k) ih (decide ((if v107 > r105 then v107 else r105) < v113)) _ ⟨h1,h2,h3,h6,h7,h8,h11,h30,h31,h32,h58⟩ h
   refine .exit (.esq (.elp (.ebk (.nbk (.nsq (rg (gm h8 fun h20=>g1 20 (ji (w64 (x43 - 1))) h20 fun h21=>gm h21 fun h8=>gq (.nlp ?_))))))))
   exact Hc1 x92 (w64 (x43 - 1)) _ ⟨h1,h2,h3,h6,h7,h8⟩ h
def zJ (F:Nat) (x2:Int) (x3:(Cl 34 ((S1 LI)×Unit) Unit)) (x1:(S1 LI)) :Nat→LI→Int→Option LI
 | 0,_,_=>none
 | k + 1,x42,x43=>
   bif decide (x43≥0) then
    (idx x42 x43).bind fun v79=>
    (Zu F x1).bind fun r80=>
    (Xc F (Xa .i64 r80 x43)).bind fun r81=>
    zN F x2 x3 x1 x43 r81 (zJ F x2 x3 x1 k) F (x42.set x43.toNat x2) 0
   else
    some x42
theorem zcY (H:NX D σ F) (x2:Int) (x3:(Cl 34 ((S1 LI)×Unit) Unit)) (x1:(S1 LI)) :∀ (k:Nat) (x42:LI) (x43:Int) (s:Nat→V),zr [(1,ji x2),(2,.fn 34 [.agg [eL x3.fs.1.a]] []),(3,.ref (.bx 3) 0 [] (.agg [eL x1.a])),(6,nI),(7,oI 7 [] (.of x42)),(8,ji x43)] s→zJ F x2 x3 x1 k x42 x43=some r→Run D σ (Jk r) (.run uA [.lp uA,.bk 0,.sq ZB]) s:=by
 intro k
 induction k with
 | zero=>intro x42 x43 s _ h;exact nm h
 | succ k ih=>
   intro x42 x43 s hs h
   rw [zJ] at h
   obtain ⟨h1,h2,h3,h6,h7,h8⟩:=hs
   refine .seq (.seq (rg (gm h8 fun h18=>g1 18 (jb (decide (x43≥0))) h18 fun h19=>gq (.nsq (zk h19 h (fun h=>?_) (fun h=>?_))))))
   · refine .skip (.nsq (.seq (.block (.seq (rg (gm h7 fun h22=>gm h8 fun h23=>gm h1 fun h24=>?_))))))
     obtain ⟨v79,Ev79,h⟩:=zb h
     refine gv (.ref (.at 7 []) x43.toNat [] (ji v79)) (vP (o:=.of x42) h22 h23 Ev79 rfl) fun h25=>yo (ji x2) (zI h25 rfl) (zI h24 rfl) (wo (by first | rfl | simp [V.toks,V.tokss,Enc.toks_enc,ym])) (gz [(1,ji x2),(2,.fn 34 [.agg [eL x3.fs.1.a]] []),(3,.ref (.bx 3) 0 [] (.agg [eL x1.a])),(6,nI),(7,_),(8,ji x43)] ⟨zd h1 rfl,zd h2 (ziM (zx (yN (zx uE rfl)) rfl) rfl),zd h3 (zO rfl rfl (yN (zx uE rfl))),zd h6 rfl,zd h7 W5,zd h8 rfl⟩ ?_)
     rintro s ⟨h1,h2,h3,h6,h7,h8⟩
     refine .nsq (.seq (rg (g1 3 (.agg [eL x1.a]) h3 fun h26=>?_)))
     obtain ⟨r80,Er80,h⟩:=zb h
     refine gcF [Enc.enc (x1:(S1 LI))] (zg h26 rfl (Enc.erase_enc (x1:(S1 LI))) zF) (H.c80 _ _ Er80) H.g80 (gm h8 fun h28=>g2 27 28 (ji (Xa .i64 r80 x43)) (rf (ji r80)) h28 fun h29=>?_)
     obtain ⟨r81,Er81,h⟩:=zb h
     refine gcF [Enc.enc (Xa .i64 r80 x43:Int)] (zg h29 rfl rfl zF) (H.c23 _ _ Er81) H.g23 (gl r81 rfl fun h31=>g0 (ji 0) fun h32=>gq (.nsq (.block (.loop ?_))))
     exact zcE H x2 x3 x1 x43 r81 (zJ F x2 x3 x1 k) ih F (x42.set x43.toNat x2) 0 _ ⟨h1,h2,h3,h6,h7,h8,rfl,h31,h32⟩ h
   refine .exit (.esq (.elp (.ebk (.nsq (.seq (rg (gm h7 fun h64=>gm h64 fun h6=>yS (yF (r:=7) (x:=6) (v:=_) h6 rfl (fun s4 hz4=>?_)))))))))
   refine ez [(6,oI 6 [] (.of x42))] (hz4 6 _ _ h6 (zp (r:=7) (p:=[]) rfl rfl)) ?_
   rintro s h6
   refine .nsq (.ret ?_)
   obtain rfl:=oi h
   exact rrA (zl h6) (ZA (ui (o:=.of x42)) (uo rfl))
def yl (F:Nat) (x1:(S1 LI)) (x2:Int) (x3:(Cl 34 ((S1 LI)×Unit) Unit)):Option LI:=
 (Zu F x1).bind fun r4=>
 (mkN (w64 (r4 + 1)) (0:Int)).bind fun mk5=>
 (Zu F x1).bind fun r6=>
 zJ F x2 x3 x1 F mk5 r6
theorem zpD (H:NX D σ F) (x1:(S1 LI)) (x2:Int) (x3:(Cl 34 ((S1 LI)×Unit) Unit)) (s:Nat→V) (hs:zr [(0,.agg [eL x1.a]),(1,ji x2),(2,.fn 34 [.agg [eL x3.fs.1.a]] [])] s) (h:yl F x1 x2 x3=some r):Run D σ (Jk r) (.run zkS []) s:=by
 unfold yl at h
 obtain ⟨h0,h1,h2⟩:=hs
 refine .seq (zC (ye ?_))
 refine ez [(0,_),(1,_),(2,_),(3,_)] ⟨za h0 rfl (z3 (zh me zH)),za h1 rfl mi,za h2 rfl (zc7 (zh (z3 (zh me zH)) zH) zH),ze rfl⟩ ?_
 rintro s ⟨h0,h1,h2,h3⟩
 refine wa (.agg [eL x1.a]) (zI h0 rfl) h3 rfl (g0 nI fun h6=>gq (.nsq (.seq (zC (ye ?_)))))
 refine ez [(1,_),(2,_),(3,_),(6,_),(15,_)] ⟨za h1 rfl mi,za h2 rfl (zc7 (zh (z3 (zh me zH)) zH) zH),za rfl rfl (zi rfl (z3 (zh me zH))),za h6 rfl rfl,ze rfl⟩ ?_
 rintro s ⟨h1,h2,h3,h6,h15⟩
 refine g1 3 (.agg [eL x1.a]) h3 fun h12=>?_
 obtain ⟨r4,Er4,h⟩:=zb h
 refine gcF [Enc.enc (x1:(S1 LI))] (zg h12 rfl (Enc.erase_enc (x1:(S1 LI))) zF) (H.c80 _ _ Er4) H.g80 (g1 13 (ji (w64 (r4 + 1))) (rf (ji r4)) fun h14=>?_)
 obtain ⟨mk5,Emk5,h⟩:=zb h
 refine zlF (0:Int) h14 rfl h15 Emk5 (gm (rf (oI 15 [] (.of mk5))) fun h7=>yS (yF (r:=15) (x:=7) (v:=_) h7 rfl (fun s3 hz3=>?_)))
 refine ez [(1,ji x2),(2,.fn 34 [.agg [eL x3.fs.1.a]] []),(3,.ref (.bx 3) 0 [] (.agg [eL x1.a])),(6,nI),(7,oI 7 [] (.of mk5))] ⟨hz3 1 _ _ h1 mi,hz3 2 _ _ h2 (zc7 (zh (z3 (zh me zH)) zH) zH),hz3 3 _ _ h3 (zi rfl (z3 (zh me zH))),hz3 6 _ _ h6 rfl,hz3 7 _ _ h7 (zp (r:=15) (p:=[]) rfl rfl)⟩ ?_
 rintro s ⟨h1,h2,h3,h6,h7⟩
 refine .nsq (.seq (.seq (rg (g1 3 (.agg [eL x1.a]) h3 fun h16=>?_))))
 obtain ⟨r6,Er6,h⟩:=zb h
 refine gcF [Enc.enc (x1:(S1 LI))] (zg h16 rfl (Enc.erase_enc (x1:(S1 LI))) zF) (H.c80 _ _ Er6) H.g80 (gm (rf (ji r6)) fun h8=>gq (.nsq (.block (.loop ?_))))
 exact zcY H x2 x3 x1 F mk5 r6 _ ⟨h1,h2,h3,h6,h7,h8⟩ h
end
def zf4 (F:Nat):Ent:=ent 61 (fun (x:((S1 LI)×Int×(Cl 34 ((S1 LI)×Unit) Unit)×Unit))=>yl F x.1 x.2.1 x.2.2.1) (fun (r:LI)=>(eL r)) 0 false [(2,34)]
abbrev zk3 (D:List V→Option V) (F:Nat):Prop:=∀ (x0:(S1 LI)) (x1:Int) (x2:(Cl 34 ((S1 LI)×Unit) Unit)) r,yl F x0 x1 x2=some r→D [Enc.enc x0,Enc.enc x1,Arg.arg x2]=some (eL r)
theorem zq2 {F:Nat}:zk3 (zf4 F).den F:=fun x0 x1 x2 _ h=>zR (x0,x1,x2,()) h
theorem zp0 (hF:zw Try.prog D σ) (H:NX D σ F):(zf4 F).Ok Try.prog:=okZ (f:=61) Try.func61 fun ⟨x0,x1,x2,_⟩ y hy=>cR hF Try.func61 c61s1 (zpD H x0 x1 x2 _ ⟨rfl,rfl,rfl⟩ hy)
def zqV:AC:=(.seq (rr [jv 3 (.load (.ag [.p]) (.t 1)),jv 4 (.load (.ag [.p]) (.t 1)),jv 5 (.fn 34 [.t 4] []),jx 6 (.call (jf 61) [.t 3,jn 0,.t 5]),jv 7 (.idx (.t 6) (jn 0) 1),jl 8 7,jm 2 8]) .ret)
def A35:AC:=(.seq (.reg [.clr [1]] [jx 1 (.box (.t 0)),jv 2 (.mov (jn 0))] []) zqV)
def zuf:List An:=[⟨0,[.clr [1]],[],[],[]⟩]
theorem c35:cq Try.prog Try.f35 zuf=some A35:=by kernel_rfl
structure H35 (D:Den) (σ:Sig) (F:Nat):Prop where
 c61s1:zk3 (D 61) F
 g61s1:σ 61=some (0,false)
abbrev R35 (r:Int):(Nat→V)→Prop:=RR Try.prog [.tmp 2] 0 false (Enc.enc (r:Int))
section
variable {r:Int}
def vg (F:Nat) (x1:(S1 LI)):Option Int:=
 (yl F x1 0 (Cl.mk (x1,()) ():(Cl 34 ((S1 LI)×Unit) Unit))).bind fun r2=>
 (idx r2 0).bind fun v3=>
 some v3
theorem t35 (H:H35 D σ F) (x1:(S1 LI)) (s:Nat→V) (hs:zr [(0,.agg [eL x1.a])] s) (h:vg F x1=some r):Run D σ (R35 r) (.run A35 []) s:=by
 unfold vg at h
 have h0:=hs
 refine .seq (zC (ye ?_))
 refine ez [(0,_),(1,_)] ⟨za h0 rfl (z3 (zh me zH)),ze rfl⟩ ?_
 rintro s ⟨h0,h1⟩
 refine wa (.agg [eL x1.a]) (zI h0 rfl) h1 rfl (g0 (ji 0) fun h2=>gq (.nsq (.seq (rg (g1 1 (.agg [eL x1.a]) (rf (.ref (.bx 1) 0 [] (.agg [eL x1.a]))) fun h3=>g1 1 (.agg [eL x1.a]) (rf (.ref (.bx 1) 0 [] (.agg [eL x1.a]))) fun h4=>g1 4 (.fn 34 [.agg [eL x1.a]] []) h4 fun h5=>?_)))))
 obtain ⟨r2,Er2,h⟩:=zb h
 refine gcF [Enc.enc (x1:(S1 LI)),Enc.enc (0:Int),Arg.arg ((Cl.mk (x1,()) ():(Cl 34 ((S1 LI)×Unit) Unit)):(Cl 34 ((S1 LI)×Unit) Unit))] (zg h3 rfl (Enc.erase_enc (x1:(S1 LI))) (zg (v:=ji 0) rfl rfl rfl (zg h5 rfl (Xx (xP (Enc.erase_enc (x1:(S1 LI))) yL) yL) zF))) (H.c61s1 _ _ _ _ Er2) H.g61s1 ?_
 obtain ⟨v3,Ev3,h⟩:=zb h
 refine gv (.ref .sh 0 [] (ji v3)) (yn (t:=.sh) (lo:=0) (xs:=r2) rfl rfl Ev3 rfl rfl) fun h7=>g1 7 (ji v3) h7 fun h8=>gm h8 fun h2=>gq (.nsq (.ret ?_))
 obtain rfl:=oi h
 exact rrA (zl h2) rfl
end
def e35 (F:Nat):Ent:=ent 35 (fun (x:((S1 LI)×Unit))=>vg F x.1) (fun (r:Int)=>(Enc.enc (r:Int))) 0 false []
abbrev C35 (D:List V→Option V) (F:Nat):Prop:=∀ (x0:(S1 LI)) r,vg F x0=some r→D [Enc.enc x0]=some (Enc.enc (r:Int))
theorem p35 {F:Nat}:C35 (e35 F).den F:=fun x0 _ h=>zR (x0,()) h
theorem o35 (hF:zw Try.prog D σ) (H:H35 D σ F):(e35 F).Ok Try.prog:=okZ (f:=35) Try.func35 fun ⟨x0,_⟩ y hy=>cR hF Try.func35 c35 (t35 H x0 _ rfl hy)
def zot:AC:=(.cond (.t 6) (.seq (rr [jv 2 (.mov (jn 0)),jv 3 (.mov kf)]) .ret) .skip)
def zrl:AC:=(.seq (rr [jv 7 (.load (.ag [.s,.p]) (.t 1)),jx 8 (.call (jf 22) [.t 7]),jx 9 (.call (jf 35) [.t 8]),jm 2 9,jv 3 (.mov kt)]) .ret)
def zrY:AC:=(.seq (.seq (rr [jv 4 (.load (.ag [.s,.p]) (.t 1)),jx 5 (.call (jf 20) [.t 4]),jv 6 (.un .not (.t 5))]) zot) zrl)
def A18:AC:=(.seq (.reg [.clr [1]] [jx 1 (.box (.t 0)),jv 2 (.mov (jn 0)),jv 3 (.mov kf)] []) zrY)
def ztI:List An:=[⟨0,[.clr [1]],[],[],[]⟩]
theorem c18:cq Try.prog Try.f18 ztI=some A18:=by kernel_rfl
structure H18 (D:Den) (σ:Sig) (F:Nat):Prop where
 c20:C20 (D 20) F
 g20:σ 20=some (0,false)
 c22:C22 (D 22) F
 g22:σ 22=some (0,false)
 c35:C35 (D 35) F
 g35:σ 35=some (0,false)
abbrev R18 (r:(Int×Bool)):(Nat→V)→Prop:=RR Try.prog [.tmp 2,.tmp 3] 0 false (.tup [Enc.enc (r.1:Int),Enc.enc (r.2:Bool)])
section
variable {r:(Int×Bool)}
def wU (F:Nat) (x1:GR):Option (Int×Bool):=
 (wW F x1).bind fun r2=>
 bif (!r2) then
  some (0,false)
 else
  (YD F x1).bind fun r3=>
  (vg F r3).bind fun r4=>
  some (r4,true)
theorem t18 (H:H18 D σ F) (x1:GR) (s:Nat→V) (hs:zr [(0,gV x1)] s) (h:wU F x1=some r):Run D σ (R18 r) (.run A18 []) s:=by
 unfold wU at h
 have h0:=hs
 refine .seq (zC (ye ?_))
 refine ez [(0,_),(1,_)] ⟨za h0 rfl mIE,ze rfl⟩ ?_
 rintro s ⟨h0,h1⟩
 refine wa (gV x1) (zI h0 rfl) h1 rfl (g0 (ji 0) fun h2=>g0 (jb false) fun h3=>gq (.nsq (.seq (.seq (rg (g1 1 (gV x1) (rf (bG 1 x1)) fun h4=>?_))))))
 obtain ⟨r2,Er2,h⟩:=zb h
 refine gcF [Enc.enc (x1:GR)] (zg h4 rfl (Enc.erase_enc (x1:GR)) zF) (H.c20 _ _ Er2) H.g20 (g1 5 (jb (!r2)) (rf (jb r2)) fun h6=>gq (.nsq (zk h6 h (fun h=>?_) (fun h=>?_))))
 · refine .seq (rg (g0 (ji 0) fun h2=>g0 (jb false) fun h3=>gq (.nsq (.ret ?_))))
   obtain rfl:=oi h
   exact rrB (zl h2) (zl h3) rfl
 refine .skip (.nsq (.seq (rg (g1 1 (gV x1) (rf (bG 1 x1)) fun h7=>?_))))
 obtain ⟨r3,Er3,h⟩:=zb h
 refine gcF [Enc.enc (x1:GR)] (zg h7 rfl (Enc.erase_enc (x1:GR)) zF) (H.c22 _ _ Er3) H.g22 ?_
 obtain ⟨r4,Er4,h⟩:=zb h
 refine gcF [Enc.enc (r3:(S1 LI))] (zg (v:=.agg [eL r3.a]) rfl rfl (Enc.erase_enc (r3:(S1 LI))) zF) (H.c35 _ _ Er4) H.g35 (gm (rf (ji r4)) fun h2=>g0 (jb true) fun h3=>gq (.nsq (.ret ?_)))
 obtain rfl:=oi h
 exact rrB (zl h2) (zl h3) rfl
end
def e18 (F:Nat):Ent:=ent 18 (fun (x:(GR×Unit))=>wU F x.1) (fun (r:(Int×Bool))=>(.tup [Enc.enc (r.1:Int),Enc.enc (r.2:Bool)])) 0 false []
abbrev C18 (D:List V→Option V) (F:Nat):Prop:=∀ (x0:GR) r,wU F x0=some r→D [Enc.enc x0]=some (.tup [Enc.enc (r.1:Int),Enc.enc (r.2:Bool)])
theorem p18 {F:Nat}:C18 (e18 F).den F:=fun x0 _ h=>zR (x0,()) h
theorem o18 (hF:zw Try.prog D σ) (H:H18 D σ F):(e18 F).Ok Try.prog:=okZ (f:=18) Try.func18 fun ⟨x0,_⟩ y hy=>cR hF Try.func18 c18 (t18 H x0 _ rfl hy)
end Go.Zq
