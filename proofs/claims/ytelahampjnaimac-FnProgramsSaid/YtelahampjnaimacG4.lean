/- Functions of the program as typed functions, and that the machine runs as they say (part 4). No further condition. -/
import Derived.Test.YtelahampjnaimacK4
import Derived.Test.YtelahampjnaimacProg
import Derived.Test.YtelahampjnaimacChecked
import Derived.KernelRfl
import Derived.Test.YtelahampjnaimacG3
set_option linter.unusedVariables false
set_option linter.unusedSimpArgs false
namespace Go.Zq
open Go.Proofs
variable {D:Den} {σ:Sig} {F:Nat}
def zrp:AC:=(.cond (.t 12) .skip (.exit 0))
def zo5:AC:=(.cond (.t 22) (.seq (rr [jv 4 (.mov kf)]) .ret) .skip)
def zps:AC:=(rr [jv 23 (.load (.ag [.s,.p]) (.t 2)),jv 24 (.load (.ag [.p,.p]) (.t 5)),jm 25 1,jm 26 6,jv 27 (.idx (.t 25) (.t 26) 1),jl 28 27,jx 29 (.call (jf 54) [.t 23,.t 24,.t 28]),jz (.store (.ag [.p,.p]) (.t 5) (.t 29))])
def zt3:AC:=(rr [jm 13 6,jv 14 (.bin .add (.t 13) (jn 1)),jm 6 14])
def zpg:AC:=(.seq (.block 1 (.seq (.seq (rr [jv 15 (.load (.ag [.s,.p]) (.t 2)),jv 16 (.load (.ag [.p,.p]) (.t 5)),jm 17 1,jm 18 6,jv 19 (.idx (.t 17) (.t 18) 1),jl 20 19,jx 21 (.call (jf 53) [.t 15,.t 16,.t 20]),jv 22 (.un .not (.t 21))]) zo5) zps)) zt3)
def zhy:AC:=(.seq (.seq (rr [jm 9 6,jm 10 1,jk 11 10,jv 12 (.bin .lss (.t 9) (.t 11))]) zrp) zpg)
def zlo:AC:=(.seq (rr [jm 30 1,jk 31 30,jv 32 (.bin .leq (.t 31) (jn 40)),jm 4 32]) .ret)
def zm6:AC:=(.block 0 (.loop zhy))
def zt8:AC:=(.seq (.seq (rr [jv 6 (.mov (jn 0))]) zm6) zlo)
def zrs:AC:=(.seq (.reg [.clr [5]] [jv 7 (.load (.ag [.s,.p]) (.t 2)),jx 8 (.call (jf 52) [.t 7]),jx 5 (.alloc (.agg [.sl .nl .s 0 [],.sl .nl .s 0 []])),jz (.store (.ag [.p,.p]) (.t 5) (.t 8))] []) zt8)
def A29:AC:=(.seq (.reg [.clr [2]] [jx 2 (.box (.t 0)),jv 4 (.mov kf)] []) zrs)
def zv5:List An:=[⟨0,[.clr [2]],[],[],[]⟩,⟨1,[.clr [5]],[],[],[]⟩]
theorem c29:cq Try.prog Try.f29 zv5=some A29:=by kernel_rfl
structure H29 (D:Den) (σ:Sig) (F:Nat):Prop where
 c52:C52 (D 52) F
 g52:σ 52=some (0,true)
 c53:C53 (D 53) F
 g53:σ 53=some (0,false)
 c54:C54 (D 54) F
 g54:σ 54=some (0,true)
abbrev R29 (r:Bool):(Nat→V)→Prop:=RR Try.prog [.tmp 4] 0 false (Enc.enc (r:Bool))
section
variable {r:Bool}
def wT (F:Nat) (x2:LI) (x1:GR) :Nat→LI→LI→Int→Option Bool
 | 0,_,_,_=>none
 | k + 1,x8,x9,x10=>
   bif decide (x10 < (x2.length:Int)) then
    (idx x2 x10).bind fun v15=>
    (WQ F x1 (x8,x9) v15).bind fun r16=>
    bif (!r16) then
     some false
    else
     (idx x2 x10).bind fun v17=>
     (Z9 F x1 (x8,x9) v17).bind fun r18=>
     (wT F x2 x1 k) r18.1 r18.2 (w64 (x10 + 1))
   else
    some (decide ((x2.length:Int)≤40))
theorem zgZ (H:H29 D σ F) (x2:LI) (x1:GR) :∀ (k:Nat) (x8:LI) (x9:LI) (x10:Int) (s:Nat→V),zr [(1,eL x2),(2,bG 2 x1),(4,jb false),(5,.ref (.bx 5) 0 [] (.agg [eL x8,eL x9])),(6,ji x10)] s→wT F x2 x1 k x8 x9 x10=some r→Run D σ (R29 r) (.run zhy [.lp zhy,.bk 0,.sq zlo]) s:=by
 intro k
 induction k with
 | zero=>intro x8 x9 x10 s _ h;exact nm h
 | succ k ih=>
   intro x8 x9 x10 s hs h
   rw [wT] at h
   obtain ⟨h1,h2,h4,h5,h6⟩:=hs
   refine .seq (.seq (rg (gm h6 fun h9=>gm h1 fun h10=>gl x2 h10 fun h11=>g2 9 11 (jb (decide (x10 < (x2.length:Int)))) h9 h11 fun h12=>gq (.nsq (zn h12 h (fun h=>?_) (fun h=>?_))))))
   · refine .skip (.nsq (.seq (.block (.seq (.seq (rg (g1 2 (gV x1) h2 fun h15=>g1 5 (.agg [eL x8,eL x9]) h5 fun h16=>gm h1 fun h17=>gm h6 fun h18=>?_)))))))
     obtain ⟨v15,Ev15,h⟩:=zc h
     refine gv (.ref .sh 0 [] (ji v15)) (yg (t:=.sh) (lo:=0) (xs:=x2) h17 h18 Ev15 rfl rfl) fun h19=>g1 19 (ji v15) h19 fun h20=>?_
     obtain ⟨r16,Er16,h⟩:=zc h
     refine gcF [Enc.enc (x1:GR),Enc.enc ((x8,x9):(LI×LI)),Enc.enc (v15:Int)] (zf h15 rfl (Enc.erase_enc (x1:GR)) (zf h16 rfl (Enc.erase_enc ((x8,x9):(LI×LI))) (zf h20 rfl rfl zC))) (H.c53 _ _ _ _ Er16) H.g53 (g1 21 (jb (!r16)) (rf (jb r16)) fun h22=>gq (.nsq (zn h22 h (fun h=>?_) (fun h=>?_))))
     · refine .seq (rg (g0 (jb false) fun h4=>gq (.nsq (.ret ?_))))
       obtain rfl:=oi h
       exact rrA (zm h4) rfl
     refine .skip (.nsq (rg (g1 2 (gV x1) h2 fun h23=>g1 5 (.agg [eL x8,eL x9]) h5 fun h24=>gm h1 fun h25=>gm h6 fun h26=>?_)))
     obtain ⟨v17,Ev17,h⟩:=zc h
     refine gv (.ref .sh 0 [] (ji v17)) (yg (t:=.sh) (lo:=0) (xs:=x2) h25 h26 Ev17 rfl rfl) fun h27=>g1 27 (ji v17) h27 fun h28=>?_
     obtain ⟨r18,Er18,h⟩:=zc h
     refine xT (m:=0) (al:=true) (r:=Enc.enc (r18:(LI×LI))) [Enc.enc (x1:GR),Enc.enc ((x8,x9):(LI×LI)),Enc.enc (v17:Int)] (zf h23 rfl (Enc.erase_enc (x1:GR)) (zf h24 rfl (Enc.erase_enc ((x8,x9):(LI×LI))) (zf h28 rfl rfl zC))) (H.c54 _ _ _ _ Er18) H.g54 (we (yc (v:=gV x1) h23 rfl rfl (yc (v:=.agg [eL x8,eL x9]) h24 rfl rfl (yc (v:=ji v17) h28 rfl rfl wd)))) rfl rfl rfl (z5 (.agg [eL r18.1,eL r18.2]) (zB h5 rfl) (zB rfl rfl) (xo (by first | rfl | simp [V.toks,V.tokss,Enc.toks_enc,zY])) ?_)
     refine gz [(1,eL x2),(2,bG 2 x1),(4,jb false),(5,.ref (.bx 5) 0 [] (.agg [eL r18.1,eL r18.2])),(6,ji x10)] ⟨zd h1 uE,zd h2 (zH rfl rfl uIE),zd h4 rfl,zd h5 rfl,zd h6 rfl⟩ ?_
     rintro s ⟨h1,h2,h4,h5,h6⟩
     refine .nbk (.nsq (rg (gm h6 fun h13=>g1 13 (ji (w64 (x10 + 1))) h13 fun h14=>gm h14 fun h6=>gq (.nlp ?_))))
     exact ih r18.1 r18.2 (w64 (x10 + 1)) _ ⟨h1,h2,h4,h5,h6⟩ h
   refine .exit (.esq (.elp (.ebk (.nsq (.seq (rg (gm h1 fun h30=>gl x2 h30 fun h31=>g1 31 (jb (decide ((x2.length:Int)≤40))) h31 fun h32=>gm h32 fun h4=>gq (.nsq (.ret ?_)))))))))
   obtain rfl:=oi h
   exact rrA (zm h4) rfl
def wS (F:Nat) (x1:GR) (x2:LI):Option Bool:=
 (Zg F x1).bind fun r3=>
 wT F x2 x1 F r3.1 r3.2 0
theorem t29 (H:H29 D σ F) (x1:GR) (x2:LI) (s:Nat→V) (hs:zr [(0,gV x1),(1,eL x2)] s) (h:wS F x1 x2=some r):Run D σ (R29 r) (.run A29 []) s:=by
 unfold wS at h
 obtain ⟨h0,h1⟩:=hs
 refine .seq (zw (zW ?_))
 refine ez [(0,_),(1,_),(2,_)] ⟨za h0 rfl mIE,za h1 rfl me,ze rfl⟩ ?_
 rintro s ⟨h0,h1,h2⟩
 refine xn (gV x1) (zB h0 rfl) h2 rfl (g0 (jb false) fun h4=>gq (.nsq (.seq (zw (zW ?_)))))
 refine ez [(1,_),(2,_),(4,_),(5,_)] ⟨za h1 rfl me,za rfl rfl (zj rfl mIE),za h4 rfl mb,ze rfl⟩ ?_
 rintro s ⟨h1,h2,h4,h5⟩
 refine g1 2 (gV x1) h2 fun h7=>?_
 obtain ⟨r3,Er3,h⟩:=zc h
 refine xT (m:=0) (al:=true) (r:=Enc.enc (r3:(LI×LI))) [Enc.enc (x1:GR)] (zf h7 rfl (Enc.erase_enc (x1:GR)) zC) (H.c52 _ _ Er3) H.g52 (we (yc (v:=gV x1) h7 rfl rfl wd)) rfl rfl rfl (y9 h5 (z5 (.agg [eL r3.1,eL r3.2]) (zB rfl rfl) (zB rfl rfl) (xo (by first | rfl | simp [V.toks,V.tokss,Enc.toks_enc,zY])) (gz [(1,eL x2),(2,bG 2 x1),(4,jb false),(5,.ref (.bx 5) 0 [] (.agg [eL r3.1,eL r3.2]))] ⟨zd h1 uE,zd h2 (zH rfl rfl uIE),zd h4 rfl,zd rfl rfl⟩ ?_)))
 rintro s ⟨h1,h2,h4,h5⟩
 refine .nsq (.seq (.seq (rg (g0 (ji 0) fun h6=>gq (.nsq (.block (.loop ?_)))))))
 exact zgZ H x2 x1 F r3.1 r3.2 0 _ ⟨h1,h2,h4,h5,h6⟩ h
end
def e29 (F:Nat):Ent:=ent 29 (fun (x:(GR×LI×Unit))=>wS F x.1 x.2.1) (fun (r:Bool)=>(Enc.enc (r:Bool))) 0 false []
abbrev C29 (D:List V→Option V) (F:Nat):Prop:=∀ (x0:GR) (x1:LI) r,wS F x0 x1=some r→D [Enc.enc x0,Enc.enc x1]=some (Enc.enc (r:Bool))
theorem p29 {F:Nat}:C29 (e29 F).den F:=fun x0 x1 _ h=>zS (x0,x1,()) h
theorem o29 (hF:zG Try.prog D σ) (H:H29 D σ F):(e29 F).Ok Try.prog:=okZ (f:=29) Try.func29 fun ⟨x0,x1,_⟩ y hy=>cR hF Try.func29 c29 (t29 H x0 x1 _ ⟨rfl,rfl⟩ hy)
def zpj:AC:=(.cond (.t 13) .skip (.exit 0))
def zrv:AC:=(rr [jm 14 6,jv 15 (.bin .add (.t 14) (jn 1)),jm 6 15])
def zsk:AC:=(.seq (.block 1 (.reg [.clr [27,28]] [jm 16 5,jv 17 (.load (.ag [.s,.p]) (.t 2)),jm 18 5,jm 19 6,jv 20 (.idx (.t 18) (.t 19) 2),jv 21 (.load (.ag [.p,.p]) (.t 20)),jm 22 1,jm 23 6,jv 24 (.idx (.t 22) (.t 23) 1),jl 25 24,jx 26 (.call (jf 54) [.t 17,.t 21,.t 25]),jx 27 (.lit (.agg [.sl .nl .s 0 [],.sl .nl .s 0 []]) 1 [(0,0,.t 26)]),jx 28 (.app (.ag [.p,.p]) (.t 16) (.t 27)),jm 5 28] [.home 28 5])) zrv)
def ziA:AC:=(.seq (.seq (rr [jm 10 6,jm 11 1,jk 12 11,jv 13 (.bin .lss (.t 10) (.t 12))]) zpj) zsk)
def zls:AC:=(.seq (.reg [] [jm 29 5,jm 4 29] [.home 5 4]) .ret)
def zp4:AC:=(.block 0 (.loop ziA))
def zoG:AC:=(.seq (.seq (rr [jv 6 (.mov (jn 0))]) zp4) zls)
def zqX:AC:=(.seq (.reg [.clr [9]] [jv 7 (.load (.ag [.s,.p]) (.t 2)),jx 8 (.call (jf 52) [.t 7]),jx 9 (.lit (.agg [.sl .nl .s 0 [],.sl .nl .s 0 []]) 1 [(0,0,.t 8)]),jm 5 9] [.home 9 5]) zoG)
def A30:AC:=(.seq (.reg [.clr [2]] [jx 2 (.box (.t 0)),jv 4 (.mov (.k (.sl .nl (.ag [.p,.p]) 0 [])))] []) zqX)
def zuC:List An:=[⟨0,[.clr [2]],[],[],[]⟩,⟨1,[.clr [9]],[],[],[.home 9 5]⟩,⟨5,[.clr [27,28]],[],[],[.home 28 5]⟩,⟨6,[],[],[],[.home 5 4]⟩]
theorem c30:cq Try.prog Try.f30 zuC=some A30:=by kernel_rfl
structure H30 (D:Den) (σ:Sig) (F:Nat):Prop where
 c52:C52 (D 52) F
 g52:σ 52=some (0,true)
 c54:C54 (D 54) F
 g54:σ 54=some (0,true)
abbrev R30 (r:(List (LI×LI))):(Nat→V)→Prop:=RR Try.prog [.tmp 4] 0 true (Enc.enc (r:(List (LI×LI))))
section
variable {r:(List (LI×LI))}
def ut (F:Nat) (x2:LI) (x1:GR) :Nat→(List (LI×LI))→Int→Option (List (LI×LI))
 | 0,_,_=>none
 | k + 1,x8,x9=>
   bif decide (x9 < (x2.length:Int)) then
    (idx x8 x9).bind fun v14=>
    (idx x2 x9).bind fun v15=>
    (Z9 F x1 v14 v15).bind fun r16=>
    (vz x8 [r16]).bind fun ap17=>
    (ut F x2 x1 k) ap17 (w64 (x9 + 1))
   else
    some x8
theorem zh2 (H:H30 D σ F) (x2:LI) (x1:GR) :∀ (k:Nat) (x8:(List (LI×LI))) (x9:Int) (s:Nat→V),zr [(1,eL x2),(2,bG 2 x1),(4,.sl .nl (Enc.shp (LI×LI)) 0 []),(5,zu (.at 5 []) (.of (x8:List (LI×LI)))),(6,ji x9)] s→ut F x2 x1 k x8 x9=some r→Run D σ (R30 r) (.run ziA [.lp ziA,.bk 0,.sq zls]) s:=by
 intro k
 induction k with
 | zero=>intro x8 x9 s _ h;exact nm h
 | succ k ih=>
   intro x8 x9 s hs h
   rw [ut] at h
   obtain ⟨h1,h2,h4,h5,h6⟩:=hs
   refine .seq (.seq (rg (gm h6 fun h10=>gm h1 fun h11=>gl x2 h11 fun h12=>g2 10 12 (jb (decide (x9 < (x2.length:Int)))) h10 h12 fun h13=>gq (.nsq (zn h13 h (fun h=>?_) (fun h=>?_))))))
   · refine .skip (.nsq (.seq (.block (zw (zW ?_)))))
     refine ez [(1,_),(2,_),(4,_),(5,_),(6,_),(27,_),(28,_)] ⟨za h1 rfl me,za h2 rfl (zj rfl mIE),za h4 rfl rfl,za h5 rfl (zl (r:=5) (p:=[]) rfl rfl),za h6 rfl mi,ze rfl,ze rfl⟩ ?_
     rintro s ⟨h1,h2,h4,h5,h6,h27,h28⟩
     refine gm h5 fun h16=>g1 2 (gV x1) h2 fun h17=>gm h5 fun h18=>gm h6 fun h19=>?_
     obtain ⟨v14,Ev14,h⟩:=zc h
     refine gv (.ref (.at 5 []) x9.toNat [] (.agg [eL v14.1,eL v14.2])) (Yg (o:=.of x8) h18 h19 Ev14 rfl) fun h20=>g1 20 (.agg [eL v14.1,eL v14.2]) h20 fun h21=>gm h1 fun h22=>gm h6 fun h23=>?_
     obtain ⟨v15,Ev15,h⟩:=zc h
     refine gv (.ref .sh 0 [] (ji v15)) (yg (t:=.sh) (lo:=0) (xs:=x2) h22 h23 Ev15 rfl rfl) fun h24=>g1 24 (ji v15) h24 fun h25=>?_
     obtain ⟨r16,Er16,h⟩:=zc h
     refine xT (m:=0) (al:=true) (r:=Enc.enc (r16:(LI×LI))) [Enc.enc (x1:GR),Enc.enc (v14:(LI×LI)),Enc.enc (v15:Int)] (zf h17 rfl (Enc.erase_enc (x1:GR)) (zf h21 rfl (Enc.erase_enc (v14:(LI×LI))) (zf h25 rfl rfl zC))) (H.c54 _ _ _ _ Er16) H.g54 (we (yc (v:=gV x1) h17 rfl rfl (yc (v:=.agg [eL v14.1,eL v14.2]) h21 rfl rfl (yc (v:=ji v15) h25 rfl rfl wd)))) rfl rfl rfl (xb [(26,.agg [eL r16.1,eL r16.2])] [Enc.enc (r16:(LI×LI))] rfl rfl rfl h27 ?_)
     obtain ⟨ap17,Eap17,h⟩:=zc h
     refine Z0 (q:=5) (p:=[]) (o:=.of (x8:List (LI×LI))) (ys:=([r16]:List (LI×LI))) (t2:=.at 27 []) (lo2:=0) h16 rfl rfl h28 (vK (o:=.of (x8:List (LI×LI))) Eap17 trivial) (fun s11 ha11=>gm (rf (zu (.at 28 []) (.of (ap17:List (LI×LI))))) fun h5=>yK (yo (r:=28) (x:=5) (v:=_) h5 rfl (fun s12 hz12=>?_)))
     refine ez [(1,eL x2),(2,bG 2 x1),(4,.sl .nl (Enc.shp (LI×LI)) 0 []),(5,zu (.at 5 []) (.of (ap17:List (LI×LI)))),(6,ji x9)] ⟨hz12 1 _ _ (show s11 1=(eL x2) from zy ha11 h1 me) me,hz12 2 _ _ (show s11 2=(bG 2 x1) from zy ha11 h2 (zj rfl mIE)) (zj rfl mIE),hz12 4 _ (.sl .nl (Enc.shp (LI×LI)) 0 []) (show s11 4=(.sl .nl (Enc.shp (LI×LI)) 0 []) from zy ha11 h4 rfl) rfl,hz12 5 _ _ h5 (zl (r:=28) (p:=[]) rfl rfl),hz12 6 _ _ (show s11 6=(ji x9) from zy ha11 h6 mi) mi⟩ ?_
     rintro s ⟨h1,h2,h4,h5,h6⟩
     refine .nbk (.nsq (rg (gm h6 fun h14=>g1 14 (ji (w64 (x9 + 1))) h14 fun h15=>gm h15 fun h6=>gq (.nlp ?_))))
     exact ih ap17 (w64 (x9 + 1)) _ ⟨h1,h2,h4,h5,h6⟩ h
   refine .exit (.esq (.elp (.ebk (.nsq (.seq (rg (gm h5 fun h29=>gm h29 fun h4=>yK (yo (r:=5) (x:=4) (v:=_) h4 rfl (fun s13 hz13=>?_)))))))))
   refine ez [(4,zu (.at 4 []) (.of (x8:List (LI×LI))))] (hz13 4 _ _ h4 (zl (r:=5) (p:=[]) rfl rfl)) ?_
   rintro s h4
   refine .nsq (.ret ?_)
   obtain rfl:=oi h
   exact rrA (zm h4) (xV (wj (o:=.of x8)))
def ul (F:Nat) (x1:GR) (x2:LI):Option (List (LI×LI)):=
 (Zg F x1).bind fun r3=>
 ut F x2 x1 F [r3] 0
theorem t30 (H:H30 D σ F) (x1:GR) (x2:LI) (s:Nat→V) (hs:zr [(0,gV x1),(1,eL x2)] s) (h:ul F x1 x2=some r):Run D σ (R30 r) (.run A30 []) s:=by
 unfold ul at h
 obtain ⟨h0,h1⟩:=hs
 refine .seq (zw (zW ?_))
 refine ez [(0,_),(1,_),(2,_)] ⟨za h0 rfl mIE,za h1 rfl me,ze rfl⟩ ?_
 rintro s ⟨h0,h1,h2⟩
 refine xn (gV x1) (zB h0 rfl) h2 rfl (g0 (.sl .nl (Enc.shp (LI×LI)) 0 []) fun h4=>gq (.nsq (.seq (zw (zW ?_)))))
 refine ez [(1,_),(2,_),(4,_),(9,_)] ⟨za h1 rfl me,za rfl rfl (zj rfl mIE),za h4 rfl rfl,ze rfl⟩ ?_
 rintro s ⟨h1,h2,h4,h9⟩
 refine g1 2 (gV x1) h2 fun h7=>?_
 obtain ⟨r3,Er3,h⟩:=zc h
 refine xT (m:=0) (al:=true) (r:=Enc.enc (r3:(LI×LI))) [Enc.enc (x1:GR)] (zf h7 rfl (Enc.erase_enc (x1:GR)) zC) (H.c52 _ _ Er3) H.g52 (we (yc (v:=gV x1) h7 rfl rfl wd)) rfl rfl rfl (xb [(8,.agg [eL r3.1,eL r3.2])] [Enc.enc (r3:(LI×LI))] rfl rfl rfl h9 (gm (rf (zu (.at 9 []) (.of ([r3]:List (LI×LI))))) fun h5=>yK (yo (r:=9) (x:=5) (v:=_) h5 rfl (fun s3 hz3=>?_))))
 refine ez [(1,eL x2),(2,bG 2 x1),(4,.sl .nl (Enc.shp (LI×LI)) 0 []),(5,zu (.at 5 []) (.of ([r3]:List (LI×LI))))] ⟨hz3 1 _ _ h1 me,hz3 2 _ _ h2 (zj rfl mIE),hz3 4 _ _ h4 rfl,hz3 5 _ _ h5 (zl (r:=9) (p:=[]) rfl rfl)⟩ ?_
 rintro s ⟨h1,h2,h4,h5⟩
 refine .nsq (.seq (.seq (rg (g0 (ji 0) fun h6=>gq (.nsq (.block (.loop ?_)))))))
 exact zh2 H x2 x1 F [r3] 0 _ ⟨h1,h2,h4,h5,h6⟩ h
end
def e30 (F:Nat):Ent:=ent 30 (fun (x:(GR×LI×Unit))=>ul F x.1 x.2.1) (fun (r:(List (LI×LI)))=>(Enc.enc (r:(List (LI×LI))))) 0 true []
abbrev C30 (D:List V→Option V) (F:Nat):Prop:=∀ (x0:GR) (x1:LI) r,ul F x0 x1=some r→D [Enc.enc x0,Enc.enc x1]=some (Enc.enc (r:(List (LI×LI))))
theorem p30 {F:Nat}:C30 (e30 F).den F:=fun x0 x1 _ h=>zS (x0,x1,()) h
theorem o30 (hF:zG Try.prog D σ) (H:H30 D σ F):(e30 F).Ok Try.prog:=okZ (f:=30) Try.func30 fun ⟨x0,x1,_⟩ y hy=>cR hF Try.func30 c30 (t30 H x0 x1 _ ⟨rfl,rfl⟩ hy)
def zqH:AC:=(.seq (.reg [.clr [3,5]] [jx 3 (.lit i0 0 []),jm 4 0,jx 5 (.app .s (.t 3) (.t 4)),jm 2 5] [.home 5 2]) .ret)
def A31:AC:=(.seq (rr [jv 2 (.mov (.k (.sl .nl .s 0 [])))]) zqH)
def zvx:List An:=[⟨1,[.clr [3,5]],[],[],[.home 5 2]⟩]
theorem c31:cq Try.prog Try.f31 zvx=some A31:=by kernel_rfl
structure H31 (D:Den) (σ:Sig) (F:Nat):Prop where
 mk ::
abbrev R31 (r:LI):(Nat→V)→Prop:=RR Try.prog [.tmp 2] 0 false (eL r)
section
variable {r:LI}
def UQ (F:Nat) (x1:LI):Option LI:=
 (vz [] x1).bind fun ap2=>
 some ap2
theorem t31 (H:H31 D σ F) (x1:LI) (s:Nat→V) (hs:zr [(0,eL x1)] s) (h:UQ F x1=some r):Run D σ (R31 r) (.run A31 []) s:=by
 unfold UQ at h
 have h0:=hs
 refine .seq (rg (g0 nI fun h2=>gq (.nsq (.seq (zw (zW ?_))))))
 refine ez [(0,_),(2,_),(3,_),(5,_)] ⟨za h0 rfl me,za h2 rfl rfl,ze rfl,ze rfl⟩ ?_
 rintro s ⟨h0,h2,h3,h5⟩
 refine xb [] [] trivial rfl rfl h3 (gm h0 fun h4=>?_)
 obtain ⟨ap2,Eap2,h⟩:=zc h
 refine Z0 (q:=3) (p:=[]) (o:=.of ([]:LI)) (ys:=(x1:LI)) (t2:=.sh) (lo2:=0) rfl h4 rfl h5 (vK (o:=.of ([]:LI)) Eap2 trivial) (fun s2 ha2=>gm (rf (oI 5 [] (.of ap2))) fun h2=>yK (yo (r:=5) (x:=2) (v:=_) h2 rfl (fun s3 hz3=>?_)))
 refine ez [(2,oI 2 [] (.of ap2))] (hz3 2 _ _ h2 (zl (r:=5) (p:=[]) rfl rfl)) ?_
 rintro s h2
 refine .nsq (.ret ?_)
 obtain rfl:=oi h
 exact rrA (zm h2) (vC (wj (o:=.of ap2)) (vB rfl))
end
def e31 (F:Nat):Ent:=ent 31 (fun (x:(LI×Unit))=>UQ F x.1) (fun (r:LI)=>(eL r)) 0 false []
abbrev C31 (D:List V→Option V) (F:Nat):Prop:=∀ (x0:LI) r,UQ F x0=some r→D [Enc.enc x0]=some (eL r)
theorem p31 {F:Nat}:C31 (e31 F).den F:=fun x0 _ h=>zS (x0,()) h
theorem o31 (hF:zG Try.prog D σ) (H:H31 D σ F):(e31 F).Ok Try.prog:=okZ (f:=31) Try.func31 fun ⟨x0,_⟩ y hy=>cR hF Try.func31 c31 (t31 H x0 _ rfl hy)
def zu6:AC:=(.cond (.t 26) .skip (.exit 0))
def zuE:AC:=(rr [jm 27 8,jv 28 (.bin .add (.t 27) (jn 1)),jm 8 28])
def zvV:AC:=(.seq (.block 1 (.reg [.clr [36,37]] [jm 29 6,jm 30 7,jm 31 8,jv 32 (.idx (.t 30) (.t 31) 2),jv 33 (.fld (.t 32) 1 1),jv 34 (.load .p (.t 33)),jx 35 (.call (jf 31) [.t 34]),jx 36 (.lit (.sl .nl .s 0 []) 1 [(0,0,.t 35)]),jx 37 (.app .p (.t 29) (.t 36)),jm 6 37] [.home 37 6])) zuE)
def zng:AC:=(.seq (.seq (rr [jm 23 8,jm 24 7,jk 25 24,jv 26 (.bin .lss (.t 23) (.t 25))]) zu6) zvV)
def zpe:AC:=(.seq (.reg [] [jm 38 6,jm 4 38,jv 5 (.mov kt)] [.home 6 4]) .ret)
def zrA:AC:=(.cond (.t 18) (.seq (rr [jm 19 6,jm 4 19,jv 5 (.mov kf)]) .ret) .skip)
def zvZ:AC:=(.block 0 (.loop zng))
def zuF:AC:=(.seq (.seq (rr [jv 8 (.mov (jn 1))]) zvZ) zpe)
def zpm:AC:=(.seq (rr [jv 20 (.load (.ag [.s,.p]) (.t 2)),jm 21 1,jx 22 (.call (jf 30) [.t 20,.t 21]),jm 7 22]) zuF)
def zpA:AC:=(.seq (.seq (rr [jv 10 (.load (.ag [.s,.p]) (.t 2)),jx 11 (.call (jf 28) [.t 10]),jv 12 (.un .not (.t 11)),jm 13 12,jg 14 13 false (.load (.ag [.s,.p]) (.t 2)),jg 15 13 false (.mov (.t 1)),.mk (some 16) (some (13,false)) false (.call (jf 29) [.t 14,.t 15]),jg 17 13 false (.un .not (.t 16)),jv 18 (.pick (.t 13) kt (.t 17))]) zrA) zpm)
def zqn:AC:=(.seq (.reg [.clr [9]] [jx 9 (.lit (.sl .nl .s 0 []) 0 []),jm 6 9] [.home 9 6]) zpA)
def A7:AC:=(.seq (.reg [.clr [2]] [jx 2 (.box (.t 0)),jv 4 (.mov (.k (.sl .nl .p 0 []))),jv 5 (.mov kf)] []) zqn)
def an7:List An:=[⟨0,[.clr [2]],[],[],[]⟩,⟨1,[.clr [9]],[],[],[.home 9 6]⟩,⟨8,[.clr [36,37]],[],[],[.home 37 6]⟩,⟨9,[],[],[],[.home 6 4]⟩]
theorem c7:cq Try.prog Try.f7 an7=some A7:=by kernel_rfl
structure H7 (D:Den) (σ:Sig) (F:Nat):Prop where
 c28:C28 (D 28) F
 g28:σ 28=some (0,false)
 c29:C29 (D 29) F
 g29:σ 29=some (0,false)
 c30:C30 (D 30) F
 g30:σ 30=some (0,true)
 c31:C31 (D 31) F
 g31:σ 31=some (0,false)
abbrev R7 (r:((List LI)×Bool)):(Nat→V)→Prop:=RR Try.prog [.tmp 4,.tmp 5] 0 true (.tup [Enc.enc (r.1:(List LI)),Enc.enc (r.2:Bool)])
section
variable {r:((List LI)×Bool)}
def wr (F:Nat) (r6:(List (LI×LI))) :Nat→(List LI)→Int→Option ((List LI)×Bool)
 | 0,_,_=>none
 | k + 1,x10,x11=>
   bif decide (x11 < (r6.length:Int)) then
    (idx r6 x11).bind fun v15=>
    (UQ F v15.2).bind fun r16=>
    (vz x10 [r16]).bind fun ap17=>
    (wr F r6 k) ap17 (w64 (x11 + 1))
   else
    some (x10,true)
theorem zj4 (H:H7 D σ F) (r6:(List (LI×LI))) :∀ (k:Nat) (x10:(List LI)) (x11:Int) (s:Nat→V),zr [(4,.sl .nl (Enc.shp LI) 0 []),(5,jb false),(6,zu (.at 6 []) (.of (x10:List LI))),(7,Enc.enc (r6:List (LI×LI))),(8,ji x11)] s→wr F r6 k x10 x11=some r→Run D σ (R7 r) (.run zng [.lp zng,.bk 0,.sq zpe]) s:=by
 intro k
 induction k with
 | zero=>intro x10 x11 s _ h;exact nm h
 | succ k ih=>
   intro x10 x11 s hs h
   rw [wr] at h
   obtain ⟨h4,h5,h6,h7,h8⟩:=hs
   refine .seq (.seq (rg (gm h8 fun h23=>gm h7 fun h24=>gl r6 h24 fun h25=>g2 23 25 (jb (decide (x11 < (r6.length:Int)))) h23 h25 fun h26=>gq (.nsq (zn h26 h (fun h=>?_) (fun h=>?_))))))
   · refine .skip (.nsq (.seq (.block (zw (zW ?_)))))
     refine ez [(4,_),(5,_),(6,_),(7,_),(8,_),(36,_),(37,_)] ⟨za h4 rfl rfl,za h5 rfl mb,za h6 rfl (zl (r:=6) (p:=[]) rfl rfl),za h7 rfl me,za h8 rfl mi,ze rfl,ze rfl⟩ ?_
     rintro s ⟨h4,h5,h6,h7,h8,h36,h37⟩
     refine gm h6 fun h29=>gm h7 fun h30=>gm h8 fun h31=>?_
     obtain ⟨v15,Ev15,h⟩:=zc h
     refine gv (.ref .sh 0 [] (.agg [eL v15.1,eL v15.2])) (yg (t:=.sh) (lo:=0) (xs:=r6) h30 h31 Ev15 rfl rfl) fun h32=>g1 32 (.ref .sh 0 [1] (eL v15.2)) h32 fun h33=>g1 33 (eL v15.2) h33 fun h34=>?_
     obtain ⟨r16,Er16,h⟩:=zc h
     refine gcF [eL v15.2] (zf h34 rfl (Enc.erase_enc (v15.2:LI)) zC) (H.c31 _ _ Er16) H.g31 (xb [(35,eL r16)] [eL r16] rfl rfl rfl h36 ?_)
     obtain ⟨ap17,Eap17,h⟩:=zc h
     refine Z0 (q:=6) (p:=[]) (o:=.of (x10:List LI)) (ys:=([r16]:List LI)) (t2:=.at 36 []) (lo2:=0) h29 rfl rfl h37 (vK (o:=.of (x10:List LI)) Eap17 trivial) (fun s11 ha11=>gm (rf (zu (.at 37 []) (.of (ap17:List LI)))) fun h6=>yK (yo (r:=37) (x:=6) (v:=_) h6 rfl (fun s12 hz12=>?_)))
     refine ez [(4,.sl .nl (Enc.shp LI) 0 []),(5,jb false),(6,zu (.at 6 []) (.of (ap17:List LI))),(7,Enc.enc (r6:List (LI×LI))),(8,ji x11)] ⟨hz12 4 _ (.sl .nl (Enc.shp LI) 0 []) (show s11 4=(.sl .nl (Enc.shp LI) 0 []) from zy ha11 h4 rfl) rfl,hz12 5 _ _ (show s11 5=(jb false) from zy ha11 h5 mb) mb,hz12 6 _ _ h6 (zl (r:=37) (p:=[]) rfl rfl),hz12 7 _ _ (show s11 7=(Enc.enc (r6:List (LI×LI))) from zy ha11 h7 me) me,hz12 8 _ _ (show s11 8=(ji x11) from zy ha11 h8 mi) mi⟩ ?_
     rintro s ⟨h4,h5,h6,h7,h8⟩
     refine .nbk (.nsq (rg (gm h8 fun h27=>g1 27 (ji (w64 (x11 + 1))) h27 fun h28=>gm h28 fun h8=>gq (.nlp ?_))))
     exact ih ap17 (w64 (x11 + 1)) _ ⟨h4,h5,h6,h7,h8⟩ h
   refine .exit (.esq (.elp (.ebk (.nsq (.seq (rg (gm h6 fun h38=>gm h38 fun h4=>g0 (jb true) fun h5=>yK (yo (r:=6) (x:=4) (v:=_) h4 rfl (fun s13 hz13=>?_)))))))))
   refine ez [(4,zu (.at 4 []) (.of (x10:List LI))),(5,jb true)] ⟨hz13 4 _ _ h4 (zl (r:=6) (p:=[]) rfl rfl),hz13 5 _ _ h5 mb⟩ ?_
   rintro s ⟨h4,h5⟩
   refine .nsq (.ret ?_)
   obtain rfl:=oi h
   exact rrB (zm h4) (zm h5) (xV (w6 (z7 (wj (o:=.of x10)) (z7 (xd (x:=(true:Bool))) xJ))))
def Zd (F:Nat) (x2:LI) (x1:GR)  (x5:Bool):Option ((List LI)×Bool):=
 bif x5 then
  some ([],false)
 else
  (ul F x1 x2).bind fun r6=>
  wr F r6 F [] 1
theorem zfC (H:H7 D σ F) (x2:LI) (x1:GR)  (x5:Bool) (s:Nat→V) (hs:zr [(1,eL x2),(2,bG 2 x1),(4,.sl .nl (Enc.shp LI) 0 []),(5,jb false),(6,zu (.at 6 []) (.of ([]:List LI))),(18,jb x5)] s) (h:Zd F x2 x1  x5=some r):Run D σ (R7 r) (.nrm [.sq zrA,.sq zpm]) s:=by
 unfold Zd at h
 obtain ⟨h1,h2,h4,h5,h6,h18⟩:=hs
 refine .nsq (zn h18 h (fun h=>?_) (fun h=>?_))
 · refine .seq (rg (gm h6 fun h19=>gm h19 fun h4=>g0 (jb false) fun h5=>gq (.nsq (.ret ?_))))
   obtain rfl:=oi h
   exact rrB (zm h4) (zm h5) (xV (w6 (z7 (wj (o:=.of [])) (z7 (xd (x:=(false:Bool))) xJ))))
 refine .skip (.nsq (.seq (rg (g1 2 (gV x1) h2 fun h20=>gm h1 fun h21=>?_))))
 obtain ⟨r6,Er6,h⟩:=zc h
 refine xT (m:=0) (al:=true) (r:=Enc.enc (r6:(List (LI×LI)))) [Enc.enc (x1:GR),eL x2] (zf h20 rfl (Enc.erase_enc (x1:GR)) (zf h21 rfl (Enc.erase_enc (x2:LI)) zC)) (H.c30 _ _ _ Er6) H.g30 (we (yc (v:=gV x1) h20 rfl rfl (yc (v:=eL x2) h21 rfl rfl wd))) rfl rfl rfl (gm (rf (Enc.enc (r6:List (LI×LI)))) fun h7=>gq (.nsq (.seq (.seq (rg (g0 (ji 1) fun h8=>gq (.nsq (.block (.loop ?_)))))))))
 exact zj4 H r6 F [] 1 _ ⟨h4,h5,h6,h7,h8⟩ h
def uk (F:Nat) (x1:GR) (x2:LI):Option ((List LI)×Bool):=
 (ug F x1).bind fun r18=>
 bif (!r18) then
  Zd F x2 x1 true
 else
  (wS F x1 x2).bind fun r19=>
  Zd F x2 x1 (!r19)
theorem t7 (H:H7 D σ F) (x1:GR) (x2:LI) (s:Nat→V) (hs:zr [(0,gV x1),(1,eL x2)] s) (h:uk F x1 x2=some r):Run D σ (R7 r) (.run A7 []) s:=by
 unfold uk at h
 obtain ⟨h0,h1⟩:=hs
 refine .seq (zw (zW ?_))
 refine ez [(0,_),(1,_),(2,_)] ⟨za h0 rfl mIE,za h1 rfl me,ze rfl⟩ ?_
 rintro s ⟨h0,h1,h2⟩
 refine xn (gV x1) (zB h0 rfl) h2 rfl (g0 (.sl .nl (Enc.shp LI) 0 []) fun h4=>g0 (jb false) fun h5=>gq (.nsq (.seq (zw (zW ?_)))))
 refine ez [(1,_),(2,_),(4,_),(5,_),(9,_)] ⟨za h1 rfl me,za rfl rfl (zj rfl mIE),za h4 rfl rfl,za h5 rfl mb,ze rfl⟩ ?_
 rintro s ⟨h1,h2,h4,h5,h9⟩
 refine xb [] [] trivial rfl rfl h9 (gm (rf (zu (.at 9 []) (.of ([]:List LI)))) fun h6=>yK (yo (r:=9) (x:=6) (v:=_) h6 rfl (fun s3 hz3=>?_)))
 refine ez [(1,eL x2),(2,bG 2 x1),(4,.sl .nl (Enc.shp LI) 0 []),(5,jb false),(6,zu (.at 6 []) (.of ([]:List LI)))] ⟨hz3 1 _ _ h1 me,hz3 2 _ _ h2 (zj rfl mIE),hz3 4 _ _ h4 rfl,hz3 5 _ _ h5 mb,hz3 6 _ _ h6 (zl (r:=9) (p:=[]) rfl rfl)⟩ ?_
 rintro s ⟨h1,h2,h4,h5,h6⟩
 refine .nsq (.seq (.seq (rg (g1 2 (gV x1) h2 fun h10=>?_))))
 obtain ⟨r18,Er18,h⟩:=zc h
 refine gcF [Enc.enc (x1:GR)] (zf h10 rfl (Enc.erase_enc (x1:GR)) zC) (H.c28 _ _ Er18) H.g28 (g1 11 (jb (!r18)) (rf (jb r18)) fun h12=>gm h12 fun h13=>zX h (fun hg4 h=>?_) (fun hg4 h=>?_))
 · iterate 4 refine yq (ct h13 hg4) ?_
   refine g2 13 17 (jb true) (ct h13 hg4) (rf (.tup [])) fun h18=>gq ?_
   exact zfC H x2 x1 true _ ⟨h1,h2,h4,h5,h6,h18⟩ h
 refine zp (ct h13 hg4) (g1 2 (gV x1) h2 fun h14=>zp (ct h13 hg4) (gm h1 fun h15=>?_))
 obtain ⟨r19,Er19,h⟩:=zc h
 refine zp (ct h13 hg4) (gcF [Enc.enc (x1:GR),eL x2] (zf h14 rfl (Enc.erase_enc (x1:GR)) (zf h15 rfl (Enc.erase_enc (x2:LI)) zC)) (H.c29 _ _ _ Er19) H.g29 (zp (ct h13 hg4) (g1 16 (jb (!r19)) (rf (jb r19)) fun h17=>g2 13 17 (jb (!r19)) (ct h13 hg4) h17 fun h18=>gq ?_)))
 exact zfC H x2 x1 (!r19) _ ⟨h1,h2,h4,h5,h6,h18⟩ h
end
def e7 (F:Nat):Ent:=ent 7 (fun (x:(GR×LI×Unit))=>uk F x.1 x.2.1) (fun (r:((List LI)×Bool))=>(.tup [Enc.enc (r.1:(List LI)),Enc.enc (r.2:Bool)])) 0 true []
abbrev C7 (D:List V→Option V) (F:Nat):Prop:=∀ (x0:GR) (x1:LI) r,uk F x0 x1=some r→D [Enc.enc x0,Enc.enc x1]=some (.tup [Enc.enc (r.1:(List LI)),Enc.enc (r.2:Bool)])
theorem p7 {F:Nat}:C7 (e7 F).den F:=fun x0 x1 _ h=>zS (x0,x1,()) h
theorem o7 (hF:zG Try.prog D σ) (H:H7 D σ F):(e7 F).Ok Try.prog:=okZ (f:=7) Try.func7 fun ⟨x0,x1,_⟩ y hy=>cR hF Try.func7 c7 (t7 H x0 x1 _ ⟨rfl,rfl⟩ hy)
def zur:AC:=(.cond (.t 14) .skip (.exit 0))
def zpQ:AC:=(.cond (.t 25) (.seq (rr [jv 4 (.mov kf)]) .ret) .skip)
def zrN:AC:=(rr [jm 15 5,jv 16 (.bin .add (.t 15) (jn 1)),jm 5 16])
def ztk:AC:=(.seq (.block 1 (.seq (rr [jm 17 0,jm 18 5,jv 19 (.idx (.t 17) (.t 18) 1),jl 20 19,jm 21 1,jm 22 5,jv 23 (.idx (.t 21) (.t 22) 1),jl 24 23,jv 25 (.bin .neq (.t 20) (.t 24))]) zpQ)) zrN)
def zjm:AC:=(.seq (.seq (rr [jm 11 5,jm 12 0,jk 13 12,jv 14 (.bin .lss (.t 11) (.t 13))]) zur) ztk)
def zlC:AC:=(.seq (rr [jv 4 (.mov kt)]) .ret)
def zrO:AC:=(.cond (.t 10) (.seq (rr [jv 4 (.mov kf)]) .ret) .skip)
def zl3:AC:=(.block 0 (.loop zjm))
def zpk:AC:=(.seq (.seq (rr [jv 5 (.mov (jn 0))]) zl3) zlC)
def zr1:AC:=(.seq (.seq (rr [jm 6 0,jk 7 6,jm 8 1,jk 9 8,jv 10 (.bin .neq (.t 7) (.t 9))]) zrO) zpk)
def A22:AC:=(.seq (rr [jv 4 (.mov kf)]) zr1)
def zuA:List An:=[]
theorem c22:cq Try.prog Try.f22 zuA=some A22:=by kernel_rfl
structure H22 (D:Den) (σ:Sig) (F:Nat):Prop where
 mk ::
abbrev R22 (r:Bool):(Nat→V)→Prop:=RR Try.prog [.tmp 4] 0 false (Enc.enc (r:Bool))
section
variable {r:Bool}
def Yh (F:Nat) (x1:LI) (x2:LI) :Nat→Int→Option Bool
 | 0,_=>none
 | k + 1,x5=>
   bif decide (x5 < (x1.length:Int)) then
    (idx x1 x5).bind fun v8=>
    (idx x2 x5).bind fun v9=>
    bif (v8 != v9) then
     some false
    else
     (Yh F x1 x2 k) (w64 (x5 + 1))
   else
    some true
theorem zig (H:H22 D σ F) (x1:LI) (x2:LI) :∀ (k:Nat) (x5:Int) (s:Nat→V),zr [(0,eL x1),(1,eL x2),(4,jb false),(5,ji x5)] s→Yh F x1 x2 k x5=some r→Run D σ (R22 r) (.run zjm [.lp zjm,.bk 0,.sq zlC]) s:=by
 intro k
 induction k with
 | zero=>intro x5 s _ h;exact nm h
 | succ k ih=>
   intro x5 s hs h
   rw [Yh] at h
   obtain ⟨h0,h1,h4,h5⟩:=hs
   refine .seq (.seq (rg (gm h5 fun h11=>gm h0 fun h12=>gl x1 h12 fun h13=>g2 11 13 (jb (decide (x5 < (x1.length:Int)))) h11 h13 fun h14=>gq (.nsq (zn h14 h (fun h=>?_) (fun h=>?_))))))
   · refine .skip (.nsq (.seq (.block (.seq (rg (gm h0 fun h17=>gm h5 fun h18=>?_))))))
     obtain ⟨v8,Ev8,h⟩:=zc h
     refine gv (.ref .sh 0 [] (ji v8)) (yg (t:=.sh) (lo:=0) (xs:=x1) h17 h18 Ev8 rfl rfl) fun h19=>g1 19 (ji v8) h19 fun h20=>gm h1 fun h21=>gm h5 fun h22=>?_
     obtain ⟨v9,Ev9,h⟩:=zc h
     refine gv (.ref .sh 0 [] (ji v9)) (yg (t:=.sh) (lo:=0) (xs:=x2) h21 h22 Ev9 rfl rfl) fun h23=>g1 23 (ji v9) h23 fun h24=>g2 20 24 (jb (v8 != v9)) h20 h24 fun h25=>gq (.nsq (zn h25 h (fun h=>?_) (fun h=>?_)))
     · refine .seq (rg (g0 (jb false) fun h4=>gq (.nsq (.ret ?_))))
       obtain rfl:=oi h
       exact rrA (zm h4) rfl
     refine .skip (.nbk (.nsq (rg (gm h5 fun h15=>g1 15 (ji (w64 (x5 + 1))) h15 fun h16=>gm h16 fun h5=>gq (.nlp ?_)))))
     exact ih (w64 (x5 + 1)) _ ⟨h0,h1,h4,h5⟩ h
   refine .exit (.esq (.elp (.ebk (.nsq (.seq (rg (g0 (jb true) fun h4=>gq (.nsq (.ret ?_)))))))))
   obtain rfl:=oi h
   exact rrA (zm h4) rfl
def WL (F:Nat) (x1:LI) (x2:LI):Option Bool:=
 bif ((x1.length:Int) != (x2.length:Int)) then
  some false
 else
  Yh F x1 x2 F 0
theorem t22 (H:H22 D σ F) (x1:LI) (x2:LI) (s:Nat→V) (hs:zr [(0,eL x1),(1,eL x2)] s) (h:WL F x1 x2=some r):Run D σ (R22 r) (.run A22 []) s:=by
 unfold WL at h
 obtain ⟨h0,h1⟩:=hs
 refine .seq (rg (g0 (jb false) fun h4=>gq (.nsq (.seq (.seq (rg (gm h0 fun h6=>gl x1 h6 fun h7=>gm h1 fun h8=>gl x2 h8 fun h9=>g2 7 9 (jb ((x1.length:Int) != (x2.length:Int))) h7 h9 fun h10=>gq (.nsq (zn h10 h (fun h=>?_) (fun h=>?_))))))))))
 · refine .seq (rg (g0 (jb false) fun h4=>gq (.nsq (.ret ?_))))
   obtain rfl:=oi h
   exact rrA (zm h4) rfl
 refine .skip (.nsq (.seq (.seq (rg (g0 (ji 0) fun h5=>gq (.nsq (.block (.loop ?_))))))))
 exact zig H x1 x2 F 0 _ ⟨h0,h1,h4,h5⟩ h
end
def e22 (F:Nat):Ent:=ent 22 (fun (x:(LI×LI×Unit))=>WL F x.1 x.2.1) (fun (r:Bool)=>(Enc.enc (r:Bool))) 0 false []
abbrev C22 (D:List V→Option V) (F:Nat):Prop:=∀ (x0:LI) (x1:LI) r,WL F x0 x1=some r→D [Enc.enc x0,Enc.enc x1]=some (Enc.enc (r:Bool))
theorem p22 {F:Nat}:C22 (e22 F).den F:=fun x0 x1 _ h=>zS (x0,x1,()) h
theorem o22 (hF:zG Try.prog D σ) (H:H22 D σ F):(e22 F).Ok Try.prog:=okZ (f:=22) Try.func22 fun ⟨x0,x1,_⟩ y hy=>cR hF Try.func22 c22 (t22 H x0 x1 _ ⟨rfl,rfl⟩ hy)
def zuH:AC:=(.cond (.t 14) .skip (.exit 0))
def zvN:AC:=(.cond (.t 26) (.seq (rr [jv 4 (.mov kf)]) .ret) .skip)
def zuM:AC:=(rr [jm 15 5,jv 16 (.bin .add (.t 15) (jn 1)),jm 5 16])
def zwl:AC:=(.seq (.block 1 (.seq (rr [jm 17 0,jm 18 5,jv 19 (.idx (.t 17) (.t 18) 1),jv 20 (.load .p (.t 19)),jm 21 1,jm 22 5,jv 23 (.idx (.t 21) (.t 22) 1),jv 24 (.load .p (.t 23)),jx 25 (.call (jf 22) [.t 20,.t 24]),jv 26 (.un .not (.t 25))]) zvN)) zuM)
def zmi:AC:=(.seq (.seq (rr [jm 11 5,jm 12 0,jk 13 12,jv 14 (.bin .lss (.t 11) (.t 13))]) zuH) zwl)
def zpp:AC:=(.seq (rr [jv 4 (.mov kt)]) .ret)
def zu3:AC:=(.cond (.t 10) (.seq (rr [jv 4 (.mov kf)]) .ret) .skip)
def ztX:AC:=(.block 0 (.loop zmi))
def zu1:AC:=(.seq (.seq (rr [jv 5 (.mov (jn 0))]) ztX) zpp)
def zvS:AC:=(.seq (.seq (rr [jm 6 0,jk 7 6,jm 8 1,jk 9 8,jv 10 (.bin .neq (.t 7) (.t 9))]) zu3) zu1)
def A8:AC:=(.seq (rr [jv 4 (.mov kf)]) zvS)
def an8:List An:=[]
theorem c8:cq Try.prog Try.f8 an8=some A8:=by kernel_rfl
structure H8 (D:Den) (σ:Sig) (F:Nat):Prop where
 c22:C22 (D 22) F
 g22:σ 22=some (0,false)
abbrev R8 (r:Bool):(Nat→V)→Prop:=RR Try.prog [.tmp 4] 0 false (Enc.enc (r:Bool))
section
variable {r:Bool}
def ZE (F:Nat) (x1:(List LI)) (x2:(List LI)) :Nat→Int→Option Bool
 | 0,_=>none
 | k + 1,x6=>
   bif decide (x6 < (x1.length:Int)) then
    (idx x1 x6).bind fun v10=>
    (idx x2 x6).bind fun v11=>
    (WL F v10 v11).bind fun r12=>
    bif (!r12) then
     some false
    else
     (ZE F x1 x2 k) (w64 (x6 + 1))
   else
    some true
theorem zkP (H:H8 D σ F) (x1:(List LI)) (x2:(List LI)) :∀ (k:Nat) (x6:Int) (s:Nat→V),zr [(0,Enc.enc (x1:List LI)),(1,Enc.enc (x2:List LI)),(4,jb false),(5,ji x6)] s→ZE F x1 x2 k x6=some r→Run D σ (R8 r) (.run zmi [.lp zmi,.bk 0,.sq zpp]) s:=by
 intro k
 induction k with
 | zero=>intro x6 s _ h;exact nm h
 | succ k ih=>
   intro x6 s hs h
   rw [ZE] at h
   obtain ⟨h0,h1,h4,h5⟩:=hs
   refine .seq (.seq (rg (gm h5 fun h11=>gm h0 fun h12=>gl x1 h12 fun h13=>g2 11 13 (jb (decide (x6 < (x1.length:Int)))) h11 h13 fun h14=>gq (.nsq (zn h14 h (fun h=>?_) (fun h=>?_))))))
   · refine .skip (.nsq (.seq (.block (.seq (rg (gm h0 fun h17=>gm h5 fun h18=>?_))))))
     obtain ⟨v10,Ev10,h⟩:=zc h
     refine gv (.ref .sh 0 [] (eL v10)) (yg (t:=.sh) (lo:=0) (xs:=x1) h17 h18 Ev10 rfl rfl) fun h19=>g1 19 (eL v10) h19 fun h20=>gm h1 fun h21=>gm h5 fun h22=>?_
     obtain ⟨v11,Ev11,h⟩:=zc h
     refine gv (.ref .sh 0 [] (eL v11)) (yg (t:=.sh) (lo:=0) (xs:=x2) h21 h22 Ev11 rfl rfl) fun h23=>g1 23 (eL v11) h23 fun h24=>?_
     obtain ⟨r12,Er12,h⟩:=zc h
     refine gcF [eL v10,eL v11] (zf h20 rfl (Enc.erase_enc (v10:LI)) (zf h24 rfl (Enc.erase_enc (v11:LI)) zC)) (H.c22 _ _ _ Er12) H.g22 (g1 25 (jb (!r12)) (rf (jb r12)) fun h26=>gq (.nsq (zn h26 h (fun h=>?_) (fun h=>?_))))
     · refine .seq (rg (g0 (jb false) fun h4=>gq (.nsq (.ret ?_))))
       obtain rfl:=oi h
       exact rrA (zm h4) rfl
     refine .skip (.nbk (.nsq (rg (gm h5 fun h15=>g1 15 (ji (w64 (x6 + 1))) h15 fun h16=>gm h16 fun h5=>gq (.nlp ?_)))))
     exact ih (w64 (x6 + 1)) _ ⟨h0,h1,h4,h5⟩ h
   refine .exit (.esq (.elp (.ebk (.nsq (.seq (rg (g0 (jb true) fun h4=>gq (.nsq (.ret ?_)))))))))
   obtain rfl:=oi h
   exact rrA (zm h4) rfl
def Xv (F:Nat) (x1:(List LI)) (x2:(List LI)):Option Bool:=
 bif ((x1.length:Int) != (x2.length:Int)) then
  some false
 else
  ZE F x1 x2 F 0
theorem t8 (H:H8 D σ F) (x1:(List LI)) (x2:(List LI)) (s:Nat→V) (hs:zr [(0,Enc.enc (x1:List LI)),(1,Enc.enc (x2:List LI))] s) (h:Xv F x1 x2=some r):Run D σ (R8 r) (.run A8 []) s:=by
 unfold Xv at h
 obtain ⟨h0,h1⟩:=hs
 refine .seq (rg (g0 (jb false) fun h4=>gq (.nsq (.seq (.seq (rg (gm h0 fun h6=>gl x1 h6 fun h7=>gm h1 fun h8=>gl x2 h8 fun h9=>g2 7 9 (jb ((x1.length:Int) != (x2.length:Int))) h7 h9 fun h10=>gq (.nsq (zn h10 h (fun h=>?_) (fun h=>?_))))))))))
 · refine .seq (rg (g0 (jb false) fun h4=>gq (.nsq (.ret ?_))))
   obtain rfl:=oi h
   exact rrA (zm h4) rfl
 refine .skip (.nsq (.seq (.seq (rg (g0 (ji 0) fun h5=>gq (.nsq (.block (.loop ?_))))))))
 exact zkP H x1 x2 F 0 _ ⟨h0,h1,h4,h5⟩ h
end
def e8 (F:Nat):Ent:=ent 8 (fun (x:((List LI)×(List LI)×Unit))=>Xv F x.1 x.2.1) (fun (r:Bool)=>(Enc.enc (r:Bool))) 0 false []
abbrev C8 (D:List V→Option V) (F:Nat):Prop:=∀ (x0:(List LI)) (x1:(List LI)) r,Xv F x0 x1=some r→D [Enc.enc x0,Enc.enc x1]=some (Enc.enc (r:Bool))
theorem p8 {F:Nat}:C8 (e8 F).den F:=fun x0 x1 _ h=>zS (x0,x1,()) h
theorem o8 (hF:zG Try.prog D σ) (H:H8 D σ F):(e8 F).Ok Try.prog:=okZ (f:=8) Try.func8 fun ⟨x0,x1,_⟩ y hy=>cR hF Try.func8 c8 (t8 H x0 x1 _ ⟨rfl,rfl⟩ hy)
def zvO:AC:=(.cond (.t 10) (.seq (rr [jv 4 (.mov kf),jv 5 (.mov kf)]) .ret) .skip)
def zv6:AC:=(.seq (rr [jm 18 7,jm 4 18,jv 5 (.mov kt)]) .ret)
def zvz:AC:=(.seq (rr [jv 12 (.load (.ag [.s,.p]) (.t 2)),jx 13 (.call (jf 33) [.t 12]),jm 14 1,jx 15 (.call (jf 34) [.t 13,.t 14]),jm 11 15,jv 16 (.ext (.t 11) 0),jv 17 (.extS (.t 11) 1),jm 6 16,jm 7 17]) zv6)
def zv2:AC:=(.seq (.seq (rr [jv 8 (.load (.ag [.s,.p]) (.t 2)),jx 9 (.call (jf 32) [.t 8]),jv 10 (.un .not (.t 9))]) zvO) zvz)
def A9:AC:=(.seq (.reg [.clr [2]] [jx 2 (.box (.t 0)),jv 4 (.mov kf),jv 5 (.mov kf)] []) zv2)
def an9:List An:=[⟨0,[.clr [2]],[],[],[]⟩]
theorem c9:cq Try.prog Try.f9 an9=some A9:=by kernel_rfl
structure H9 (D:Den) (σ:Sig) (F:Nat):Prop where
 c32:C32 (D 32) F
 g32:σ 32=some (0,false)
 c33:C33 (D 33) F
 g33:σ 33=some (0,false)
 c34:C34 (D 34) F
 g34:σ 34=some (0,false)
abbrev R9 (r:(Bool×Bool)):(Nat→V)→Prop:=RR Try.prog [.tmp 4,.tmp 5] 0 false (.tup [Enc.enc (r.1:Bool),Enc.enc (r.2:Bool)])
section
variable {r:(Bool×Bool)}
def uT (F:Nat) (x1:GR) (x2:LI):Option (Bool×Bool):=
 (vw F x1).bind fun r3=>
 bif (!r3) then
  some (false,false)
 else
  (ZQ F x1).bind fun r4=>
  (xX F r4 x2).bind fun r5=>
  some (r5.2,true)
theorem t9 (H:H9 D σ F) (x1:GR) (x2:LI) (s:Nat→V) (hs:zr [(0,gV x1),(1,eL x2)] s) (h:uT F x1 x2=some r):Run D σ (R9 r) (.run A9 []) s:=by
 unfold uT at h
 obtain ⟨h0,h1⟩:=hs
 refine .seq (zw (zW ?_))
 refine ez [(0,_),(1,_),(2,_)] ⟨za h0 rfl mIE,za h1 rfl me,ze rfl⟩ ?_
 rintro s ⟨h0,h1,h2⟩
 refine xn (gV x1) (zB h0 rfl) h2 rfl (g0 (jb false) fun h4=>g0 (jb false) fun h5=>gq (.nsq (.seq (.seq (rg (g1 2 (gV x1) (rf (bG 2 x1)) fun h8=>?_))))))
 obtain ⟨r3,Er3,h⟩:=zc h
 refine gcF [Enc.enc (x1:GR)] (zf h8 rfl (Enc.erase_enc (x1:GR)) zC) (H.c32 _ _ Er3) H.g32 (g1 9 (jb (!r3)) (rf (jb r3)) fun h10=>gq (.nsq (zn h10 h (fun h=>?_) (fun h=>?_))))
 · refine .seq (rg (g0 (jb false) fun h4=>g0 (jb false) fun h5=>gq (.nsq (.ret ?_))))
   obtain rfl:=oi h
   exact rrB (zm h4) (zm h5) rfl
 refine .skip (.nsq (.seq (rg (g1 2 (gV x1) (rf (bG 2 x1)) fun h12=>?_))))
 obtain ⟨r4,Er4,h⟩:=zc h
 refine gcF [Enc.enc (x1:GR)] (zf h12 rfl (Enc.erase_enc (x1:GR)) zC) (H.c33 _ _ Er4) H.g33 (gm h1 fun h14=>?_)
 obtain ⟨r5,Er5,h⟩:=zc h
 refine gcF [Enc.enc (r4:(S1 LI)),eL x2] (zf (v:=.agg [eL r4.a]) rfl rfl (Enc.erase_enc (r4:(S1 LI))) (zf h14 rfl (Enc.erase_enc (x2:LI)) zC)) (H.c34 _ _ _ Er5) H.g34 (gm (rf (.tup [eP r5.1,jb r5.2])) fun h11=>g1 11 (eP r5.1) h11 fun h16=>g1 11 (jb r5.2) h11 fun h17=>gm h16 fun h6=>gm h17 fun h7=>gq (.nsq (.seq (rg (gm h7 fun h18=>gm h18 fun h4=>g0 (jb true) fun h5=>gq (.nsq (.ret ?_)))))))
 obtain rfl:=oi h
 exact rrB (zm h4) (zm h5) rfl
end
def e9 (F:Nat):Ent:=ent 9 (fun (x:(GR×LI×Unit))=>uT F x.1 x.2.1) (fun (r:(Bool×Bool))=>(.tup [Enc.enc (r.1:Bool),Enc.enc (r.2:Bool)])) 0 false []
abbrev C9 (D:List V→Option V) (F:Nat):Prop:=∀ (x0:GR) (x1:LI) r,uT F x0 x1=some r→D [Enc.enc x0,Enc.enc x1]=some (.tup [Enc.enc (r.1:Bool),Enc.enc (r.2:Bool)])
theorem p9 {F:Nat}:C9 (e9 F).den F:=fun x0 x1 _ h=>zS (x0,x1,()) h
theorem o9 (hF:zG Try.prog D σ) (H:H9 D σ F):(e9 F).Ok Try.prog:=okZ (f:=9) Try.func9 fun ⟨x0,x1,_⟩ y hy=>cR hF Try.func9 c9 (t9 H x0 x1 _ ⟨rfl,rfl⟩ hy)
def zpa:AC:=(.cond (.t 8) (.seq (rr [jv 4 (.mov kf),jv 5 (.mov kf)]) .ret) .skip)
def ztw:AC:=(.seq (rr [jv 9 (.load (.ag [.s,.p]) (.t 2)),jm 10 1,jx 11 (.call (jf 29) [.t 9,.t 10]),jm 4 11,jv 5 (.mov kt)]) .ret)
def ztg:AC:=(.seq (.seq (rr [jv 6 (.load (.ag [.s,.p]) (.t 2)),jx 7 (.call (jf 28) [.t 6]),jv 8 (.un .not (.t 7))]) zpa) ztw)
def A10:AC:=(.seq (.reg [.clr [2]] [jx 2 (.box (.t 0)),jv 4 (.mov kf),jv 5 (.mov kf)] []) ztg)
def zvW:List An:=[⟨0,[.clr [2]],[],[],[]⟩]
theorem c10:cq Try.prog Try.f10 zvW=some A10:=by kernel_rfl
structure H10 (D:Den) (σ:Sig) (F:Nat):Prop where
 c28:C28 (D 28) F
 g28:σ 28=some (0,false)
 c29:C29 (D 29) F
 g29:σ 29=some (0,false)
abbrev R10 (r:(Bool×Bool)):(Nat→V)→Prop:=RR Try.prog [.tmp 4,.tmp 5] 0 false (.tup [Enc.enc (r.1:Bool),Enc.enc (r.2:Bool)])
section
variable {r:(Bool×Bool)}
def uP (F:Nat) (x1:GR) (x2:LI):Option (Bool×Bool):=
 (ug F x1).bind fun r3=>
 bif (!r3) then
  some (false,false)
 else
  (wS F x1 x2).bind fun r4=>
  some (r4,true)
theorem t10 (H:H10 D σ F) (x1:GR) (x2:LI) (s:Nat→V) (hs:zr [(0,gV x1),(1,eL x2)] s) (h:uP F x1 x2=some r):Run D σ (R10 r) (.run A10 []) s:=by
 unfold uP at h
 obtain ⟨h0,h1⟩:=hs
 refine .seq (zw (zW ?_))
 refine ez [(0,_),(1,_),(2,_)] ⟨za h0 rfl mIE,za h1 rfl me,ze rfl⟩ ?_
 rintro s ⟨h0,h1,h2⟩
 refine xn (gV x1) (zB h0 rfl) h2 rfl (g0 (jb false) fun h4=>g0 (jb false) fun h5=>gq (.nsq (.seq (.seq (rg (g1 2 (gV x1) (rf (bG 2 x1)) fun h6=>?_))))))
 obtain ⟨r3,Er3,h⟩:=zc h
 refine gcF [Enc.enc (x1:GR)] (zf h6 rfl (Enc.erase_enc (x1:GR)) zC) (H.c28 _ _ Er3) H.g28 (g1 7 (jb (!r3)) (rf (jb r3)) fun h8=>gq (.nsq (zn h8 h (fun h=>?_) (fun h=>?_))))
 · refine .seq (rg (g0 (jb false) fun h4=>g0 (jb false) fun h5=>gq (.nsq (.ret ?_))))
   obtain rfl:=oi h
   exact rrB (zm h4) (zm h5) rfl
 refine .skip (.nsq (.seq (rg (g1 2 (gV x1) (rf (bG 2 x1)) fun h9=>gm h1 fun h10=>?_))))
 obtain ⟨r4,Er4,h⟩:=zc h
 refine gcF [Enc.enc (x1:GR),eL x2] (zf h9 rfl (Enc.erase_enc (x1:GR)) (zf h10 rfl (Enc.erase_enc (x2:LI)) zC)) (H.c29 _ _ _ Er4) H.g29 (gm (rf (jb r4)) fun h4=>g0 (jb true) fun h5=>gq (.nsq (.ret ?_)))
 obtain rfl:=oi h
 exact rrB (zm h4) (zm h5) rfl
end
def e10 (F:Nat):Ent:=ent 10 (fun (x:(GR×LI×Unit))=>uP F x.1 x.2.1) (fun (r:(Bool×Bool))=>(.tup [Enc.enc (r.1:Bool),Enc.enc (r.2:Bool)])) 0 false []
abbrev C10 (D:List V→Option V) (F:Nat):Prop:=∀ (x0:GR) (x1:LI) r,uP F x0 x1=some r→D [Enc.enc x0,Enc.enc x1]=some (.tup [Enc.enc (r.1:Bool),Enc.enc (r.2:Bool)])
theorem p10 {F:Nat}:C10 (e10 F).den F:=fun x0 x1 _ h=>zS (x0,x1,()) h
theorem o10 (hF:zG Try.prog D σ) (H:H10 D σ F):(e10 F).Ok Try.prog:=okZ (f:=10) Try.func10 fun ⟨x0,x1,_⟩ y hy=>cR hF Try.func10 c10 (t10 H x0 x1 _ ⟨rfl,rfl⟩ hy)
def zs7:AC:=(.cond (.t 15) (.seq (rr [jv 4 (.mov kf),jv 5 (.mov kf)]) .ret) .skip)
def zsm:AC:=(.seq (rr [jm 16 6,jm 17 6,jk 18 17,jv 19 (.bin .sub (.t 18) (jn 1)),jv 20 (.idx (.t 16) (.t 19) 2),jv 21 (.fld (.t 20) 1 1),jl 22 21,jv 23 (.bin .eql (.t 22) (jn 0)),jm 4 23,jv 5 (.mov kt)]) .ret)
def zrw:AC:=(.seq (.seq (rr [jm 14 7,jv 15 (.un .not (.t 14))]) zs7) zsm)
def zr3:AC:=(.seq (rr [jv 9 (.load (.ag [.s,.p]) (.t 2)),jm 10 1,jx 11 (.call (jf 26) [.t 9,.t 10]),jm 8 11,jv 12 (.ext (.t 8) 0),jv 13 (.extS (.t 8) 1),jm 6 12,jm 7 13]) zrw)
def A11:AC:=(.seq (.reg [.clr [2]] [jx 2 (.box (.t 0)),jv 4 (.mov kf),jv 5 (.mov kf)] []) zr3)
def zvj:List An:=[⟨0,[.clr [2]],[],[],[]⟩]
theorem c11:cq Try.prog Try.f11 zvj=some A11:=by kernel_rfl
structure H11 (D:Den) (σ:Sig) (F:Nat):Prop where
 c26:C26 (D 26) F
 g26:σ 26=some (0,true)
abbrev R11 (r:(Bool×Bool)):(Nat→V)→Prop:=RR Try.prog [.tmp 4,.tmp 5] 0 false (.tup [Enc.enc (r.1:Bool),Enc.enc (r.2:Bool)])
section
variable {r:(Bool×Bool)}
def wK (F:Nat) (x1:GR) (x2:LI):Option (Bool×Bool):=
 (wo F x1 x2).bind fun r3=>
 bif (!r3.2) then
  some (false,false)
 else
  (idx r3.1 (w64 ((r3.1.length:Int) - 1))).bind fun v4=>
  some ((v4.2 == 0),true)
theorem t11 (H:H11 D σ F) (x1:GR) (x2:LI) (s:Nat→V) (hs:zr [(0,gV x1),(1,eL x2)] s) (h:wK F x1 x2=some r):Run D σ (R11 r) (.run A11 []) s:=by
 unfold wK at h
 obtain ⟨h0,h1⟩:=hs
 refine .seq (zw (zW ?_))
 refine ez [(0,_),(1,_),(2,_)] ⟨za h0 rfl mIE,za h1 rfl me,ze rfl⟩ ?_
 rintro s ⟨h0,h1,h2⟩
 refine xn (gV x1) (zB h0 rfl) h2 rfl (g0 (jb false) fun h4=>g0 (jb false) fun h5=>gq (.nsq (.seq (rg (g1 2 (gV x1) (rf (bG 2 x1)) fun h9=>gm h1 fun h10=>?_)))))
 obtain ⟨r3,Er3,h⟩:=zc h
 refine xT (m:=0) (al:=true) (r:=.tup [eP r3.1,Enc.enc (r3.2:Bool)]) [Enc.enc (x1:GR),eL x2] (zf h9 rfl (Enc.erase_enc (x1:GR)) (zf h10 rfl (Enc.erase_enc (x2:LI)) zC)) (H.c26 _ _ _ Er3) H.g26 (we (yc (v:=gV x1) h9 rfl rfl (yc (v:=eL x2) h10 rfl rfl wd))) rfl rfl rfl (gm (rf (.tup [eP r3.1,jb r3.2])) fun h8=>g1 8 (eP r3.1) h8 fun h12=>g1 8 (jb r3.2) h8 fun h13=>gm h12 fun h6=>gm h13 fun h7=>gq (.nsq (.seq (.seq (rg (gm h7 fun h14=>g1 14 (jb (!r3.2)) h14 fun h15=>gq (.nsq (zn h15 h (fun h=>?_) (fun h=>?_)))))))))
 · refine .seq (rg (g0 (jb false) fun h4=>g0 (jb false) fun h5=>gq (.nsq (.ret ?_))))
   obtain rfl:=oi h
   exact rrB (zm h4) (zm h5) rfl
 refine .skip (.nsq (.seq (rg (gm h6 fun h16=>gm h6 fun h17=>gl r3.1 h17 fun h18=>g1 18 (ji (w64 ((r3.1.length:Int) - 1))) h18 fun h19=>?_))))
 obtain ⟨v4,Ev4,h⟩:=zc h
 refine gv (.ref .sh 0 [] (.agg [ji v4.1,ji v4.2])) (yg (t:=.sh) (lo:=0) (xs:=r3.1) h16 h19 Ev4 rfl rfl) fun h20=>g1 20 (.ref .sh 0 [1] (ji v4.2)) h20 fun h21=>g1 21 (ji v4.2) h21 fun h22=>g1 22 (jb (v4.2 == 0)) h22 fun h23=>gm h23 fun h4=>g0 (jb true) fun h5=>gq (.nsq (.ret ?_))
 obtain rfl:=oi h
 exact rrB (zm h4) (zm h5) rfl
end
def e11 (F:Nat):Ent:=ent 11 (fun (x:(GR×LI×Unit))=>wK F x.1 x.2.1) (fun (r:(Bool×Bool))=>(.tup [Enc.enc (r.1:Bool),Enc.enc (r.2:Bool)])) 0 false []
abbrev C11 (D:List V→Option V) (F:Nat):Prop:=∀ (x0:GR) (x1:LI) r,wK F x0 x1=some r→D [Enc.enc x0,Enc.enc x1]=some (.tup [Enc.enc (r.1:Bool),Enc.enc (r.2:Bool)])
theorem p11 {F:Nat}:C11 (e11 F).den F:=fun x0 x1 _ h=>zS (x0,x1,()) h
theorem o11 (hF:zG Try.prog D σ) (H:H11 D σ F):(e11 F).Ok Try.prog:=okZ (f:=11) Try.func11 fun ⟨x0,x1,_⟩ y hy=>cR hF Try.func11 c11 (t11 H x0 x1 _ ⟨rfl,rfl⟩ hy)
def zli:AC:=(.cond (.t 14) (.seq (rr [jv 4 (.mov kf),jv 5 (.mov kf)]) .ret) .skip)
def zkX:AC:=(.seq (rr [jv 15 (.load (.ag [.s,.p]) (.t 2)),jm 16 1,jx 17 (.call (jf 30) [.t 15,.t 16]),jm 18 1,jk 19 18,jv 20 (.idx (.t 17) (.t 19) 2),jv 21 (.fld (.t 20) 1 1),jv 22 (.load .p (.t 21)),jk 23 22,jv 24 (.bin .eql (.t 23) (jn 0)),jm 4 24,jv 5 (.mov kt)]) .ret)
def ztq:AC:=(.seq (.seq (rr [jv 6 (.load (.ag [.s,.p]) (.t 2)),jx 7 (.call (jf 28) [.t 6]),jv 8 (.un .not (.t 7)),jm 9 8,jg 10 9 false (.load (.ag [.s,.p]) (.t 2)),jg 11 9 false (.mov (.t 1)),.mk (some 12) (some (9,false)) false (.call (jf 29) [.t 10,.t 11]),jg 13 9 false (.un .not (.t 12)),jv 14 (.pick (.t 9) kt (.t 13))]) zli) zkX)
def A12:AC:=(.seq (.reg [.clr [2]] [jx 2 (.box (.t 0)),jv 4 (.mov kf),jv 5 (.mov kf)] []) ztq)
def zvh:List An:=[⟨0,[.clr [2]],[],[],[]⟩]
theorem c12:cq Try.prog Try.f12 zvh=some A12:=by kernel_rfl
structure H12 (D:Den) (σ:Sig) (F:Nat):Prop where
 c28:C28 (D 28) F
 g28:σ 28=some (0,false)
 c29:C29 (D 29) F
 g29:σ 29=some (0,false)
 c30:C30 (D 30) F
 g30:σ 30=some (0,true)
abbrev R12 (r:(Bool×Bool)):(Nat→V)→Prop:=RR Try.prog [.tmp 4,.tmp 5] 0 false (.tup [Enc.enc (r.1:Bool),Enc.enc (r.2:Bool)])
section
variable {r:(Bool×Bool)}
def Ze (F:Nat) (x2:LI) (x1:GR)  (x5:Bool):Option (Bool×Bool):=
 bif x5 then
  some (false,false)
 else
  (ul F x1 x2).bind fun r6=>
  (idx r6 (x2.length:Int)).bind fun v7=>
  some (((v7.2.length:Int) == 0),true)
theorem zbX (H:H12 D σ F) (x2:LI) (x1:GR)  (x5:Bool) (s:Nat→V) (hs:zr [(1,eL x2),(2,bG 2 x1),(4,jb false),(5,jb false),(14,jb x5)] s) (h:Ze F x2 x1  x5=some r):Run D σ (R12 r) (.nrm [.sq zli,.sq zkX]) s:=by
 unfold Ze at h
 obtain ⟨h1,h2,h4,h5,h14⟩:=hs
 refine .nsq (zn h14 h (fun h=>?_) (fun h=>?_))
 · refine .seq (rg (g0 (jb false) fun h4=>g0 (jb false) fun h5=>gq (.nsq (.ret ?_))))
   obtain rfl:=oi h
   exact rrB (zm h4) (zm h5) rfl
 refine .skip (.nsq (.seq (rg (g1 2 (gV x1) h2 fun h15=>gm h1 fun h16=>?_))))
 obtain ⟨r6,Er6,h⟩:=zc h
 refine xT (m:=0) (al:=true) (r:=Enc.enc (r6:(List (LI×LI)))) [Enc.enc (x1:GR),eL x2] (zf h15 rfl (Enc.erase_enc (x1:GR)) (zf h16 rfl (Enc.erase_enc (x2:LI)) zC)) (H.c30 _ _ _ Er6) H.g30 (we (yc (v:=gV x1) h15 rfl rfl (yc (v:=eL x2) h16 rfl rfl wd))) rfl rfl rfl (gm h1 fun h18=>gl x2 h18 fun h19=>?_)
 obtain ⟨v7,Ev7,h⟩:=zc h
 refine gv (.ref .sh 0 [] (.agg [eL v7.1,eL v7.2])) (yg (t:=.sh) (lo:=0) (xs:=r6) rfl h19 Ev7 rfl rfl) fun h20=>g1 20 (.ref .sh 0 [1] (eL v7.2)) h20 fun h21=>g1 21 (eL v7.2) h21 fun h22=>gl v7.2 h22 fun h23=>g1 23 (jb ((v7.2.length:Int) == 0)) h23 fun h24=>gm h24 fun h4=>g0 (jb true) fun h5=>gq (.nsq (.ret ?_))
 obtain rfl:=oi h
 exact rrB (zm h4) (zm h5) rfl
def uc (F:Nat) (x1:GR) (x2:LI):Option (Bool×Bool):=
 (ug F x1).bind fun r8=>
 bif (!r8) then
  Ze F x2 x1 true
 else
  (wS F x1 x2).bind fun r9=>
  Ze F x2 x1 (!r9)
theorem t12 (H:H12 D σ F) (x1:GR) (x2:LI) (s:Nat→V) (hs:zr [(0,gV x1),(1,eL x2)] s) (h:uc F x1 x2=some r):Run D σ (R12 r) (.run A12 []) s:=by
 unfold uc at h
 obtain ⟨h0,h1⟩:=hs
 refine .seq (zw (zW ?_))
 refine ez [(0,_),(1,_),(2,_)] ⟨za h0 rfl mIE,za h1 rfl me,ze rfl⟩ ?_
 rintro s ⟨h0,h1,h2⟩
 refine xn (gV x1) (zB h0 rfl) h2 rfl (g0 (jb false) fun h4=>g0 (jb false) fun h5=>gq (.nsq (.seq (.seq (rg (g1 2 (gV x1) (rf (bG 2 x1)) fun h6=>?_))))))
 obtain ⟨r8,Er8,h⟩:=zc h
 refine gcF [Enc.enc (x1:GR)] (zf h6 rfl (Enc.erase_enc (x1:GR)) zC) (H.c28 _ _ Er8) H.g28 (g1 7 (jb (!r8)) (rf (jb r8)) fun h8=>gm h8 fun h9=>zX h (fun hg4 h=>?_) (fun hg4 h=>?_))
 · iterate 4 refine yq (ct h9 hg4) ?_
   refine g2 9 13 (jb true) (ct h9 hg4) (rf (.tup [])) fun h14=>gq ?_
   exact zbX H x2 x1 true _ ⟨h1,rfl,h4,h5,h14⟩ h
 refine zp (ct h9 hg4) (g1 2 (gV x1) (rf (bG 2 x1)) fun h10=>zp (ct h9 hg4) (gm h1 fun h11=>?_))
 obtain ⟨r9,Er9,h⟩:=zc h
 refine zp (ct h9 hg4) (gcF [Enc.enc (x1:GR),eL x2] (zf h10 rfl (Enc.erase_enc (x1:GR)) (zf h11 rfl (Enc.erase_enc (x2:LI)) zC)) (H.c29 _ _ _ Er9) H.g29 (zp (ct h9 hg4) (g1 12 (jb (!r9)) (rf (jb r9)) fun h13=>g2 9 13 (jb (!r9)) (ct h9 hg4) h13 fun h14=>gq ?_)))
 exact zbX H x2 x1 (!r9) _ ⟨h1,rfl,h4,h5,h14⟩ h
end
def e12 (F:Nat):Ent:=ent 12 (fun (x:(GR×LI×Unit))=>uc F x.1 x.2.1) (fun (r:(Bool×Bool))=>(.tup [Enc.enc (r.1:Bool),Enc.enc (r.2:Bool)])) 0 false []
abbrev C12 (D:List V→Option V) (F:Nat):Prop:=∀ (x0:GR) (x1:LI) r,uc F x0 x1=some r→D [Enc.enc x0,Enc.enc x1]=some (.tup [Enc.enc (r.1:Bool),Enc.enc (r.2:Bool)])
theorem p12 {F:Nat}:C12 (e12 F).den F:=fun x0 x1 _ h=>zS (x0,x1,()) h
theorem o12 (hF:zG Try.prog D σ) (H:H12 D σ F):(e12 F).Ok Try.prog:=okZ (f:=12) Try.func12 fun ⟨x0,x1,_⟩ y hy=>cR hF Try.func12 c12 (t12 H x0 x1 _ ⟨rfl,rfl⟩ hy)
def zuj:AC:=(.cond (.t 20) .skip (.exit 0))
def zth:AC:=(.cond (.t 35) (.seq (rr [jv 4 (.mov kf),jv 5 (.mov kt)]) .ret) .skip)
def zrt:AC:=(rr [jm 21 8,jv 22 (.bin .add (.t 21) (jn 1)),jm 8 22])
def zpn:AC:=(.seq (.block 1 (.seq (rr [jm 23 6,jm 24 8,jv 25 (.idx (.t 23) (.t 24) 2),jv 26 (.fld (.t 25) 1 1),jl 27 26,jm 28 6,jm 29 8,jv 30 (.bin .sub (.t 29) (jn 1)),jv 31 (.idx (.t 28) (.t 30) 2),jv 32 (.fld (.t 31) 1 1),jl 33 32,jv 34 (.bin .andNot (.t 27) (.t 33)),jv 35 (.bin .neq (.t 34) (jn 0))]) zth)) zrt)
def ziB:AC:=(.seq (.seq (rr [jm 17 8,jm 18 6,jk 19 18,jv 20 (.bin .lss (.t 17) (.t 19))]) zuj) zpn)
def zlS:AC:=(.seq (rr [jv 4 (.mov kt),jv 5 (.mov kt)]) .ret)
def zoW:AC:=(.cond (.t 16) (.seq (rr [jv 4 (.mov kf),jv 5 (.mov kf)]) .ret) .skip)
def zl4:AC:=(.block 0 (.loop ziB))
def zn2:AC:=(.seq (.seq (rr [jv 8 (.mov (jn 1))]) zl4) zlS)
def ztP:AC:=(.seq (.seq (rr [jm 15 7,jv 16 (.un .not (.t 15))]) zoW) zn2)
def zpJ:AC:=(.seq (rr [jv 10 (.load (.ag [.s,.p]) (.t 2)),jm 11 1,jx 12 (.call (jf 26) [.t 10,.t 11]),jm 9 12,jv 13 (.ext (.t 9) 0),jv 14 (.extS (.t 9) 1),jm 6 13,jm 7 14]) ztP)
def A13:AC:=(.seq (.reg [.clr [2]] [jx 2 (.box (.t 0)),jv 4 (.mov kf),jv 5 (.mov kf)] []) zpJ)
def zvA:List An:=[⟨0,[.clr [2]],[],[],[]⟩]
theorem c13:cq Try.prog Try.f13 zvA=some A13:=by kernel_rfl
structure H13 (D:Den) (σ:Sig) (F:Nat):Prop where
 c26:C26 (D 26) F
 g26:σ 26=some (0,true)
abbrev R13 (r:(Bool×Bool)):(Nat→V)→Prop:=RR Try.prog [.tmp 4,.tmp 5] 0 false (.tup [Enc.enc (r.1:Bool),Enc.enc (r.2:Bool)])
section
variable {r:(Bool×Bool)}
def vp (F:Nat) (r3:(TP×Bool)) :Nat→Int→Option (Bool×Bool)
 | 0,_=>none
 | k + 1,x6=>
   bif decide (x6 < (r3.1.length:Int)) then
    (idx r3.1 x6).bind fun v9=>
    (idx r3.1 (w64 (x6 - 1))).bind fun v10=>
    bif ((yS .i64 v9.2 v10.2) != 0) then
     some (false,true)
    else
     (vp F r3 k) (w64 (x6 + 1))
   else
    some (true,true)
theorem zhX (H:H13 D σ F) (r3:(TP×Bool)) :∀ (k:Nat) (x6:Int) (s:Nat→V),zr [(4,jb false),(5,jb false),(6,eP r3.1),(8,ji x6)] s→vp F r3 k x6=some r→Run D σ (R13 r) (.run ziB [.lp ziB,.bk 0,.sq zlS]) s:=by
 intro k
 induction k with
 | zero=>intro x6 s _ h;exact nm h
 | succ k ih=>
   intro x6 s hs h
   rw [vp] at h
   obtain ⟨h4,h5,h6,h8⟩:=hs
   refine .seq (.seq (rg (gm h8 fun h17=>gm h6 fun h18=>gl r3.1 h18 fun h19=>g2 17 19 (jb (decide (x6 < (r3.1.length:Int)))) h17 h19 fun h20=>gq (.nsq (zn h20 h (fun h=>?_) (fun h=>?_))))))
   · refine .skip (.nsq (.seq (.block (.seq (rg (gm h6 fun h23=>gm h8 fun h24=>?_))))))
     obtain ⟨v9,Ev9,h⟩:=zc h
     refine gv (.ref .sh 0 [] (.agg [ji v9.1,ji v9.2])) (yg (t:=.sh) (lo:=0) (xs:=r3.1) h23 h24 Ev9 rfl rfl) fun h25=>g1 25 (.ref .sh 0 [1] (ji v9.2)) h25 fun h26=>g1 26 (ji v9.2) h26 fun h27=>gm h6 fun h28=>gm h8 fun h29=>g1 29 (ji (w64 (x6 - 1))) h29 fun h30=>?_
     obtain ⟨v10,Ev10,h⟩:=zc h
     refine gv (.ref .sh 0 [] (.agg [ji v10.1,ji v10.2])) (yg (t:=.sh) (lo:=0) (xs:=r3.1) h28 h30 Ev10 rfl rfl) fun h31=>g1 31 (.ref .sh 0 [1] (ji v10.2)) h31 fun h32=>g1 32 (ji v10.2) h32 fun h33=>g2 27 33 (ji (yS .i64 v9.2 v10.2)) h27 h33 fun h34=>g1 34 (jb ((yS .i64 v9.2 v10.2) != 0)) h34 fun h35=>gz [(4,_),(5,_),(6,_),(8,_),(35,_)] ⟨h4,h5,h6,h8,h35⟩ ?_
     rintro s ⟨h4,h5,h6,h8,h35⟩
     refine .nsq (zn h35 h (fun h=>?_) (fun h=>?_))
     · refine .seq (rg (g0 (jb false) fun h4=>g0 (jb true) fun h5=>gq (.nsq (.ret ?_))))
       obtain rfl:=oi h
       exact rrB (zm h4) (zm h5) rfl
     refine .skip (.nbk (.nsq (rg (gm h8 fun h21=>g1 21 (ji (w64 (x6 + 1))) h21 fun h22=>gm h22 fun h8=>gq (.nlp ?_)))))
     exact ih (w64 (x6 + 1)) _ ⟨h4,h5,h6,h8⟩ h
   refine .exit (.esq (.elp (.ebk (.nsq (.seq (rg (g0 (jb true) fun h4=>g0 (jb true) fun h5=>gq (.nsq (.ret ?_)))))))))
   obtain rfl:=oi h
   exact rrB (zm h4) (zm h5) rfl
def uv (F:Nat) (x1:GR) (x2:LI):Option (Bool×Bool):=
 (wo F x1 x2).bind fun r3=>
 bif (!r3.2) then
  some (false,false)
 else
  vp F r3 F 1
theorem t13 (H:H13 D σ F) (x1:GR) (x2:LI) (s:Nat→V) (hs:zr [(0,gV x1),(1,eL x2)] s) (h:uv F x1 x2=some r):Run D σ (R13 r) (.run A13 []) s:=by
 unfold uv at h
 obtain ⟨h0,h1⟩:=hs
 refine .seq (zw (zW ?_))
 refine ez [(0,_),(1,_),(2,_)] ⟨za h0 rfl mIE,za h1 rfl me,ze rfl⟩ ?_
 rintro s ⟨h0,h1,h2⟩
 refine xn (gV x1) (zB h0 rfl) h2 rfl (g0 (jb false) fun h4=>g0 (jb false) fun h5=>gq (.nsq (.seq (rg (g1 2 (gV x1) (rf (bG 2 x1)) fun h10=>gm h1 fun h11=>?_)))))
 obtain ⟨r3,Er3,h⟩:=zc h
 refine xT (m:=0) (al:=true) (r:=.tup [eP r3.1,Enc.enc (r3.2:Bool)]) [Enc.enc (x1:GR),eL x2] (zf h10 rfl (Enc.erase_enc (x1:GR)) (zf h11 rfl (Enc.erase_enc (x2:LI)) zC)) (H.c26 _ _ _ Er3) H.g26 (we (yc (v:=gV x1) h10 rfl rfl (yc (v:=eL x2) h11 rfl rfl wd))) rfl rfl rfl (gm (rf (.tup [eP r3.1,jb r3.2])) fun h9=>g1 9 (eP r3.1) h9 fun h13=>g1 9 (jb r3.2) h9 fun h14=>gm h13 fun h6=>gm h14 fun h7=>gq (.nsq (.seq (.seq (rg (gm h7 fun h15=>g1 15 (jb (!r3.2)) h15 fun h16=>gq (.nsq (zn h16 h (fun h=>?_) (fun h=>?_)))))))))
 · refine .seq (rg (g0 (jb false) fun h4=>g0 (jb false) fun h5=>gq (.nsq (.ret ?_))))
   obtain rfl:=oi h
   exact rrB (zm h4) (zm h5) rfl
 refine .skip (.nsq (.seq (.seq (rg (g0 (ji 1) fun h8=>gq (.nsq (.block (.loop ?_))))))))
 exact zhX H r3 F 1 _ ⟨h4,h5,h6,h8⟩ h
end
def e13 (F:Nat):Ent:=ent 13 (fun (x:(GR×LI×Unit))=>uv F x.1 x.2.1) (fun (r:(Bool×Bool))=>(.tup [Enc.enc (r.1:Bool),Enc.enc (r.2:Bool)])) 0 false []
abbrev C13 (D:List V→Option V) (F:Nat):Prop:=∀ (x0:GR) (x1:LI) r,uv F x0 x1=some r→D [Enc.enc x0,Enc.enc x1]=some (.tup [Enc.enc (r.1:Bool),Enc.enc (r.2:Bool)])
theorem p13 {F:Nat}:C13 (e13 F).den F:=fun x0 x1 _ h=>zS (x0,x1,()) h
theorem o13 (hF:zG Try.prog D σ) (H:H13 D σ F):(e13 F).Ok Try.prog:=okZ (f:=13) Try.func13 fun ⟨x0,x1,_⟩ y hy=>cR hF Try.func13 c13 (t13 H x0 x1 _ ⟨rfl,rfl⟩ hy)
def zrk:AC:=(.cond (.t 24) .skip (.exit 0))
def zsT:AC:=(.cond (.t 34) .skip (.exit 2))
def zsD:AC:=(.cond (.t 52) (.seq (rr [jv 4 (.mov kf),jv 5 (.mov kt)]) .ret) .skip)
def zoQ:AC:=(rr [jm 35 8,jv 36 (.bin .add (.t 35) (jn 1)),jm 8 36])
def zqZ:AC:=(.seq (.block 3 (.seq (rr [jm 37 6,jm 38 7,jv 39 (.bin .sub (.t 38) (jn 1)),jv 40 (.idx (.t 37) (.t 39) 2),jv 41 (.fld (.t 40) 1 1),jv 42 (.load .p (.t 41)),jm 43 6,jm 44 7,jv 45 (.idx (.t 43) (.t 44) 2),jv 46 (.fld (.t 45) 1 1),jv 47 (.load .p (.t 46)),jm 48 8,jv 49 (.idx (.t 47) (.t 48) 1),jl 50 49,jx 51 (.call (jf 35) [.t 42,.t 50]),jv 52 (.un .not (.t 51))]) zsD)) zoQ)
def zjq:AC:=(.seq (.seq (rr [jm 27 8,jm 28 6,jm 29 7,jv 30 (.idx (.t 28) (.t 29) 2),jv 31 (.fld (.t 30) 1 1),jv 32 (.load .p (.t 31)),jk 33 32,jv 34 (.bin .lss (.t 27) (.t 33))]) zsT) zqZ)
def zrr:AC:=(.block 2 (.loop zjq))
def zh1:AC:=(rr [jm 25 7,jv 26 (.bin .add (.t 25) (jn 1)),jm 7 26])
def zq7:AC:=(.seq (.block 1 (.seq (rr [jv 8 (.mov (jn 0))]) zrr)) zh1)
def Qh:AC:=(.seq (.seq (rr [jm 21 7,jm 22 6,jk 23 22,jv 24 (.bin .lss (.t 21) (.t 23))]) zrk) zq7)
def zbC:AC:=(.seq (rr [jv 4 (.mov kt),jv 5 (.mov kt)]) .ret)
def ziE:AC:=(.cond (.t 17) (.seq (rr [jv 4 (.mov kf),jv 5 (.mov kf)]) .ret) .skip)
def zmT:AC:=(.block 0 (.loop Qh))
def zmX:AC:=(.seq (.seq (rr [jv 7 (.mov (jn 1))]) zmT) zbC)
def zjM:AC:=(.seq (rr [jv 18 (.load (.ag [.s,.p]) (.t 2)),jm 19 1,jx 20 (.call (jf 30) [.t 18,.t 19]),jm 6 20]) zmX)
def zom:AC:=(.seq (.seq (rr [jv 9 (.load (.ag [.s,.p]) (.t 2)),jx 10 (.call (jf 28) [.t 9]),jv 11 (.un .not (.t 10)),jm 12 11,jg 13 12 false (.load (.ag [.s,.p]) (.t 2)),jg 14 12 false (.mov (.t 1)),.mk (some 15) (some (12,false)) false (.call (jf 29) [.t 13,.t 14]),jg 16 12 false (.un .not (.t 15)),jv 17 (.pick (.t 12) kt (.t 16))]) ziE) zjM)
def A14:AC:=(.seq (.reg [.clr [2]] [jx 2 (.box (.t 0)),jv 4 (.mov kf),jv 5 (.mov kf)] []) zom)
def zwh:List An:=[⟨0,[.clr [2]],[],[],[]⟩]
theorem c14:cq Try.prog Try.f14 zwh=some A14:=by kernel_rfl
structure H14 (D:Den) (σ:Sig) (F:Nat):Prop where
 c28:C28 (D 28) F
 g28:σ 28=some (0,false)
 c29:C29 (D 29) F
 g29:σ 29=some (0,false)
 c30:C30 (D 30) F
 g30:σ 30=some (0,true)
 c35:C35 (D 35) F
 g35:σ 35=some (0,false)
abbrev R14 (r:(Bool×Bool)):(Nat→V)→Prop:=RR Try.prog [.tmp 4,.tmp 5] 0 false (.tup [Enc.enc (r.1:Bool),Enc.enc (r.2:Bool)])
section
variable {r:(Bool×Bool)}
def uq (F:Nat) (r6:(List (LI×LI))) (x23:Int) (c1:Int→Option (Bool×Bool)):Nat→Int→Option (Bool×Bool)
 | 0,_=>none
 | k + 1,x45=>
   (idx r6 x23).bind fun v51=>
   bif decide (x45 < (v51.2.length:Int)) then
    (idx r6 (w64 (x23 - 1))).bind fun v52=>
    (idx r6 x23).bind fun v53=>
    (idx v53.2 x45).bind fun v54=>
    (wI F v52.2 v54).bind fun r55=>
    bif (!r55) then
     some (false,true)
    else
     (uq F r6 x23 c1 k) (w64 (x45 + 1))
   else
    c1 (w64 (x23 + 1))
theorem zjh (H:H14 D σ F) (r6:(List (LI×LI))) (x23:Int) (c1:Int→Option (Bool×Bool)) (Hc1:∀ (x23:Int) (s:Nat→V),zr [(4,jb false),(5,jb false),(6,Enc.enc (r6:List (LI×LI))),(7,ji x23)] s→c1 x23=some r→Run D σ (R14 r) (.run Qh [.lp Qh,.bk 0,.sq zbC]) s):∀ (k:Nat) (x45:Int) (s:Nat→V),zr [(4,jb false),(5,jb false),(6,Enc.enc (r6:List (LI×LI))),(7,ji x23),(8,ji x45)] s→uq F r6 x23 c1 k x45=some r→Run D σ (R14 r) (.run zjq [.lp zjq,.bk 2,.bk 1,.sq zh1,.lp Qh,.bk 0,.sq zbC]) s:=by
 intro k
 induction k with
 | zero=>intro x45 s _ h;exact nm h
 | succ k ih=>
   intro x45 s hs h
   rw [uq] at h
   obtain ⟨h4,h5,h6,h7,h8⟩:=hs
   refine .seq (.seq (rg (gm h8 fun h27=>gm h6 fun h28=>gm h7 fun h29=>?_)))
   obtain ⟨v51,Ev51,h⟩:=zc h
   refine gv (.ref .sh 0 [] (.agg [eL v51.1,eL v51.2])) (yg (t:=.sh) (lo:=0) (xs:=r6) h28 h29 Ev51 rfl rfl) fun h30=>g1 30 (.ref .sh 0 [1] (eL v51.2)) h30 fun h31=>g1 31 (eL v51.2) h31 fun h32=>gl v51.2 h32 fun h33=>g2 27 33 (jb (decide (x45 < (v51.2.length:Int)))) h27 h33 fun h34=>gq (.nsq (zn h34 h (fun h=>?_) (fun h=>?_)))
   · refine .skip (.nsq (.seq (.block (.seq (rg (gm h6 fun h37=>gm h7 fun h38=>g1 38 (ji (w64 (x23 - 1))) h38 fun h39=>?_))))))
     obtain ⟨v52,Ev52,h⟩:=zc h
     refine gv (.ref .sh 0 [] (.agg [eL v52.1,eL v52.2])) (yg (t:=.sh) (lo:=0) (xs:=r6) h37 h39 Ev52 rfl rfl) fun h40=>g1 40 (.ref .sh 0 [1] (eL v52.2)) h40 fun h41=>g1 41 (eL v52.2) h41 fun h42=>gm h6 fun h43=>gm h7 fun h44=>?_
     obtain ⟨v53,Ev53,h⟩:=zc h
     refine gv (.ref .sh 0 [] (.agg [eL v53.1,eL v53.2])) (yg (t:=.sh) (lo:=0) (xs:=r6) h43 h44 Ev53 rfl rfl) fun h45=>g1 45 (.ref .sh 0 [1] (eL v53.2)) h45 fun h46=>g1 46 (eL v53.2) h46 fun h47=>gm h8 fun h48=>?_
     obtain ⟨v54,Ev54,h⟩:=zc h
     refine gv (.ref .sh 0 [] (ji v54)) (yg (t:=.sh) (lo:=0) (xs:=v53.2) h47 h48 Ev54 rfl rfl) fun h49=>g1 49 (ji v54) h49 fun h50=>?_
     obtain ⟨r55,Er55,h⟩:=zc h
     refine gcF [eL v52.2,Enc.enc (v54:Int)] (zf h42 rfl (Enc.erase_enc (v52.2:LI)) (zf h50 rfl rfl zC)) (H.c35 _ _ _ Er55) H.g35 (g1 51 (jb (!r55)) (rf (jb r55)) fun h52=>gz [(4,_),(5,_),(6,_),(7,_),(8,_),(52,_)] ⟨h4,h5,h6,h7,h8,h52⟩ ?_)
     rintro s ⟨h4,h5,h6,h7,h8,h52⟩
     refine .nsq (zn h52 h (fun h=>?_) (fun h=>?_))
     · refine .seq (rg (g0 (jb false) fun h4=>g0 (jb true) fun h5=>gq (.nsq (.ret ?_))))
       obtain rfl:=oi h
       exact rrB (zm h4) (zm h5) rfl
     refine .skip (.nbk (.nsq (rg (gm h8 fun h35=>g1 35 (ji (w64 (x45 + 1))) h35 fun h36=>gm h36 fun h8=>gq (.nlp ?_)))))
     exact ih (w64 (x45 + 1)) _ ⟨h4,h5,h6,h7,h8⟩ h
   refine .exit (.esq (.elp (.ebk (.nbk (.nsq (rg (gm h7 fun h25=>g1 25 (ji (w64 (x23 + 1))) h25 fun h26=>gm h26 fun h7=>gq (.nlp ?_))))))))
   exact Hc1 (w64 (x23 + 1)) _ ⟨h4,h5,h6,h7⟩ h
def xP (F:Nat) (r6:(List (LI×LI))) :Nat→Int→Option (Bool×Bool)
 | 0,_=>none
 | k + 1,x23=>
   bif decide (x23 < (r6.length:Int)) then
    uq F r6 x23 (xP F r6 k) F 0
   else
    some (true,true)
theorem zjw (H:H14 D σ F) (r6:(List (LI×LI))) :∀ (k:Nat) (x23:Int) (s:Nat→V),zr [(4,jb false),(5,jb false),(6,Enc.enc (r6:List (LI×LI))),(7,ji x23)] s→xP F r6 k x23=some r→Run D σ (R14 r) (.run Qh [.lp Qh,.bk 0,.sq zbC]) s:=by
 intro k
 induction k with
 | zero=>intro x23 s _ h;exact nm h
 | succ k ih=>
   intro x23 s hs h
   rw [xP] at h
   obtain ⟨h4,h5,h6,h7⟩:=hs
   refine .seq (.seq (rg (gm h7 fun h21=>gm h6 fun h22=>gl r6 h22 fun h23=>g2 21 23 (jb (decide (x23 < (r6.length:Int)))) h21 h23 fun h24=>gq (.nsq (zn h24 h (fun h=>?_) (fun h=>?_))))))
   · refine .skip (.nsq (.seq (.block (.seq (rg (g0 (ji 0) fun h8=>gq (.nsq (.block (.loop ?_)))))))))
     exact zjh H r6 x23 (xP F r6 k) ih F 0 _ ⟨h4,h5,h6,h7,h8⟩ h
   refine .exit (.esq (.elp (.ebk (.nsq (.seq (rg (g0 (jb true) fun h4=>g0 (jb true) fun h5=>gq (.nsq (.ret ?_)))))))))
   obtain rfl:=oi h
   exact rrB (zm h4) (zm h5) rfl
def Z8 (F:Nat) (x2:LI) (x1:GR)  (x5:Bool):Option (Bool×Bool):=
 bif x5 then
  some (false,false)
 else
  (ul F x1 x2).bind fun r6=>
  xP F r6 F 1
theorem zbO (H:H14 D σ F) (x2:LI) (x1:GR)  (x5:Bool) (s:Nat→V) (hs:zr [(1,eL x2),(2,bG 2 x1),(4,jb false),(5,jb false),(17,jb x5)] s) (h:Z8 F x2 x1  x5=some r):Run D σ (R14 r) (.nrm [.sq ziE,.sq zjM]) s:=by
 unfold Z8 at h
 obtain ⟨h1,h2,h4,h5,h17⟩:=hs
 refine .nsq (zn h17 h (fun h=>?_) (fun h=>?_))
 · refine .seq (rg (g0 (jb false) fun h4=>g0 (jb false) fun h5=>gq (.nsq (.ret ?_))))
   obtain rfl:=oi h
   exact rrB (zm h4) (zm h5) rfl
 refine .skip (.nsq (.seq (rg (g1 2 (gV x1) h2 fun h18=>gm h1 fun h19=>?_))))
 obtain ⟨r6,Er6,h⟩:=zc h
 refine xT (m:=0) (al:=true) (r:=Enc.enc (r6:(List (LI×LI)))) [Enc.enc (x1:GR),eL x2] (zf h18 rfl (Enc.erase_enc (x1:GR)) (zf h19 rfl (Enc.erase_enc (x2:LI)) zC)) (H.c30 _ _ _ Er6) H.g30 (we (yc (v:=gV x1) h18 rfl rfl (yc (v:=eL x2) h19 rfl rfl wd))) rfl rfl rfl (gm (rf (Enc.enc (r6:List (LI×LI)))) fun h6=>gq (.nsq (.seq (.seq (rg (g0 (ji 1) fun h7=>gq (.nsq (.block (.loop ?_)))))))))
 exact zjw H r6 F 1 _ ⟨h4,h5,h6,h7⟩ h
def ZA (F:Nat) (x1:GR) (x2:LI):Option (Bool×Bool):=
 (ug F x1).bind fun r56=>
 bif (!r56) then
  Z8 F x2 x1 true
 else
  (wS F x1 x2).bind fun r57=>
  Z8 F x2 x1 (!r57)
theorem t14 (H:H14 D σ F) (x1:GR) (x2:LI) (s:Nat→V) (hs:zr [(0,gV x1),(1,eL x2)] s) (h:ZA F x1 x2=some r):Run D σ (R14 r) (.run A14 []) s:=by
 unfold ZA at h
 obtain ⟨h0,h1⟩:=hs
 refine .seq (zw (zW ?_))
 refine ez [(0,_),(1,_),(2,_)] ⟨za h0 rfl mIE,za h1 rfl me,ze rfl⟩ ?_
 rintro s ⟨h0,h1,h2⟩
 refine xn (gV x1) (zB h0 rfl) h2 rfl (g0 (jb false) fun h4=>g0 (jb false) fun h5=>gq (.nsq (.seq (.seq (rg (g1 2 (gV x1) (rf (bG 2 x1)) fun h9=>?_))))))
 obtain ⟨r56,Er56,h⟩:=zc h
 refine gcF [Enc.enc (x1:GR)] (zf h9 rfl (Enc.erase_enc (x1:GR)) zC) (H.c28 _ _ Er56) H.g28 (g1 10 (jb (!r56)) (rf (jb r56)) fun h11=>gm h11 fun h12=>zX h (fun hg4 h=>?_) (fun hg4 h=>?_))
 · iterate 4 refine yq (ct h12 hg4) ?_
   refine g2 12 16 (jb true) (ct h12 hg4) (rf (.tup [])) fun h17=>gq ?_
   exact zbO H x2 x1 true _ ⟨h1,rfl,h4,h5,h17⟩ h
 refine zp (ct h12 hg4) (g1 2 (gV x1) (rf (bG 2 x1)) fun h13=>zp (ct h12 hg4) (gm h1 fun h14=>?_))
 obtain ⟨r57,Er57,h⟩:=zc h
 refine zp (ct h12 hg4) (gcF [Enc.enc (x1:GR),eL x2] (zf h13 rfl (Enc.erase_enc (x1:GR)) (zf h14 rfl (Enc.erase_enc (x2:LI)) zC)) (H.c29 _ _ _ Er57) H.g29 (zp (ct h12 hg4) (g1 15 (jb (!r57)) (rf (jb r57)) fun h16=>g2 12 16 (jb (!r57)) (ct h12 hg4) h16 fun h17=>gq ?_)))
 exact zbO H x2 x1 (!r57) _ ⟨h1,rfl,h4,h5,h17⟩ h
end
def e14 (F:Nat):Ent:=ent 14 (fun (x:(GR×LI×Unit))=>ZA F x.1 x.2.1) (fun (r:(Bool×Bool))=>(.tup [Enc.enc (r.1:Bool),Enc.enc (r.2:Bool)])) 0 false []
abbrev C14 (D:List V→Option V) (F:Nat):Prop:=∀ (x0:GR) (x1:LI) r,ZA F x0 x1=some r→D [Enc.enc x0,Enc.enc x1]=some (.tup [Enc.enc (r.1:Bool),Enc.enc (r.2:Bool)])
theorem p14 {F:Nat}:C14 (e14 F).den F:=fun x0 x1 _ h=>zS (x0,x1,()) h
theorem o14 (hF:zG Try.prog D σ) (H:H14 D σ F):(e14 F).Ok Try.prog:=okZ (f:=14) Try.func14 fun ⟨x0,x1,_⟩ y hy=>cR hF Try.func14 c14 (t14 H x0 x1 _ ⟨rfl,rfl⟩ hy)
def zsF:AC:=(.seq (rr [jm 32 0,jv 33 (.conv .i64 (.t 32)),jv 34 (.bin .and (.t 33) (jn 127)),jm 2 34]) .ret)
def zrq:AC:=(.seq (rr [jm 28 0,jm 29 0,jv 30 (.bin .shr (.t 29) (.k (.int .u64 (.ofNat 32)))),jv 31 (.bin .add (.t 28) (.t 30)),jm 0 31]) zsF)
def zqi:AC:=(.seq (rr [jm 24 0,jm 25 0,jv 26 (.bin .shr (.t 25) (.k (.int .u64 (.ofNat 16)))),jv 27 (.bin .add (.t 24) (.t 26)),jm 0 27]) zrq)
def zqD:AC:=(.seq (rr [jm 20 0,jm 21 0,jv 22 (.bin .shr (.t 21) (.k (.int .u64 (.ofNat 8)))),jv 23 (.bin .add (.t 20) (.t 22)),jm 0 23]) zqi)
def zsE:AC:=(.seq (rr [jm 15 0,jv 16 (.bin .shr (.t 15) (.k (.int .u64 (.ofNat 4)))),jm 17 0,jv 18 (.bin .add (.t 16) (.t 17)),jv 19 (.bin .and (.t 18) (.k (.int .u64 (.ofNat 1085102592571150095)))),jm 0 19]) zqD)
def zpD:AC:=(.seq (rr [jm 9 0,jv 10 (.bin .shr (.t 9) (.k (.int .u64 (.ofNat 2)))),jv 11 (.bin .and (.t 10) (.k (.int .u64 (.ofNat 3689348814741910323)))),jm 12 0,jv 13 (.bin .and (.t 12) (.k (.int .u64 (.ofNat 3689348814741910323)))),jv 14 (.bin .add (.t 11) (.t 13)),jm 0 14]) zsE)
def zqv:AC:=(.seq (rr [jm 3 0,jv 4 (.bin .shr (.t 3) (.k (.int .u64 (.ofNat 1)))),jv 5 (.bin .and (.t 4) (.k (.int .u64 (.ofNat 6148914691236517205)))),jm 6 0,jv 7 (.bin .and (.t 6) (.k (.int .u64 (.ofNat 6148914691236517205)))),jv 8 (.bin .add (.t 5) (.t 7)),jm 0 8]) zpD)
def A60:AC:=(.seq (rr [jv 2 (.mov (jn 0))]) zqv)
def zu7:List An:=[]
theorem c60:cq Try.prog Try.f60 zu7=some A60:=by kernel_rfl
structure H60 (D:Den) (σ:Sig) (F:Nat):Prop where
 mk ::
abbrev R60 (r:Int):(Nat→V)→Prop:=RR Try.prog [.tmp 2] 0 false (Enc.enc (r:Int))
section
variable {r:Int}
def uC (F:Nat) (x1:(Kd .u64)):Option Int:=
 (U4 .u64 x1.v 1).bind fun q2=>
 (U4 .u64 (IntKind.u64.wrap ((yO .u64 q2 6148914691236517205) + (yO .u64 x1.v 6148914691236517205))) 2).bind fun q3=>
 (U4 .u64 (IntKind.u64.wrap ((yO .u64 q3 3689348814741910323) + (yO .u64 (IntKind.u64.wrap ((yO .u64 q2 6148914691236517205) + (yO .u64 x1.v 6148914691236517205))) 3689348814741910323))) 4).bind fun q4=>
 (U4 .u64 (yO .u64 (IntKind.u64.wrap (q4 + (IntKind.u64.wrap ((yO .u64 q3 3689348814741910323) + (yO .u64 (IntKind.u64.wrap ((yO .u64 q2 6148914691236517205) + (yO .u64 x1.v 6148914691236517205))) 3689348814741910323))))) 1085102592571150095) 8).bind fun q5=>
 (U4 .u64 (IntKind.u64.wrap ((yO .u64 (IntKind.u64.wrap (q4 + (IntKind.u64.wrap ((yO .u64 q3 3689348814741910323) + (yO .u64 (IntKind.u64.wrap ((yO .u64 q2 6148914691236517205) + (yO .u64 x1.v 6148914691236517205))) 3689348814741910323))))) 1085102592571150095) + q5)) 16).bind fun q6=>
 (U4 .u64 (IntKind.u64.wrap ((IntKind.u64.wrap ((yO .u64 (IntKind.u64.wrap (q4 + (IntKind.u64.wrap ((yO .u64 q3 3689348814741910323) + (yO .u64 (IntKind.u64.wrap ((yO .u64 q2 6148914691236517205) + (yO .u64 x1.v 6148914691236517205))) 3689348814741910323))))) 1085102592571150095) + q5)) + q6)) 32).bind fun q7=>
 some (yO .i64 (w64 (IntKind.u64.wrap ((IntKind.u64.wrap ((IntKind.u64.wrap ((yO .u64 (IntKind.u64.wrap (q4 + (IntKind.u64.wrap ((yO .u64 q3 3689348814741910323) + (yO .u64 (IntKind.u64.wrap ((yO .u64 q2 6148914691236517205) + (yO .u64 x1.v 6148914691236517205))) 3689348814741910323))))) 1085102592571150095) + q5)) + q6)) + q7))) 127)
theorem t60 (H:H60 D σ F) (x1:(Kd .u64)) (s:Nat→V) (hs:zr [(0,.int .u64 x1.v)] s) (h:uC F x1=some r):Run D σ (R60 r) (.run A60 []) s:=by
 unfold uC at h
 have h0:=hs
 refine .seq (rg (g0 (ji 0) fun h2=>gq (.nsq (.seq (rg (gm h0 fun h3=>?_))))))
 obtain ⟨q2,Eq2,h⟩:=zc h
 refine gv (.int .u64 q2) (XP h3 rfl Eq2) fun h4=>g1 4 (.int .u64 (yO .u64 q2 6148914691236517205)) h4 fun h5=>gm h0 fun h6=>g1 6 (.int .u64 (yO .u64 x1.v 6148914691236517205)) h6 fun h7=>g2 5 7 (.int .u64 (IntKind.u64.wrap ((yO .u64 q2 6148914691236517205) + (yO .u64 x1.v 6148914691236517205)))) h5 h7 fun h8=>gm h8 fun h0=>gq (.nsq (.seq (rg (gm h0 fun h9=>?_))))
 obtain ⟨q3,Eq3,h⟩:=zc h
 refine gv (.int .u64 q3) (XP h9 rfl Eq3) fun h10=>g1 10 (.int .u64 (yO .u64 q3 3689348814741910323)) h10 fun h11=>gm h0 fun h12=>g1 12 (.int .u64 (yO .u64 (IntKind.u64.wrap ((yO .u64 q2 6148914691236517205) + (yO .u64 x1.v 6148914691236517205))) 3689348814741910323)) h12 fun h13=>g2 11 13 (.int .u64 (IntKind.u64.wrap ((yO .u64 q3 3689348814741910323) + (yO .u64 (IntKind.u64.wrap ((yO .u64 q2 6148914691236517205) + (yO .u64 x1.v 6148914691236517205))) 3689348814741910323)))) h11 h13 fun h14=>gm h14 fun h0=>gq (.nsq (.seq (rg (gm h0 fun h15=>?_))))
 obtain ⟨q4,Eq4,h⟩:=zc h
 refine gv (.int .u64 q4) (XP h15 rfl Eq4) fun h16=>gm h0 fun h17=>g2 16 17 (.int .u64 (IntKind.u64.wrap (q4 + (IntKind.u64.wrap ((yO .u64 q3 3689348814741910323) + (yO .u64 (IntKind.u64.wrap ((yO .u64 q2 6148914691236517205) + (yO .u64 x1.v 6148914691236517205))) 3689348814741910323)))))) h16 h17 fun h18=>g1 18 (.int .u64 (yO .u64 (IntKind.u64.wrap (q4 + (IntKind.u64.wrap ((yO .u64 q3 3689348814741910323) + (yO .u64 (IntKind.u64.wrap ((yO .u64 q2 6148914691236517205) + (yO .u64 x1.v 6148914691236517205))) 3689348814741910323))))) 1085102592571150095)) h18 fun h19=>gm h19 fun h0=>gq (.nsq (.seq (rg (gm h0 fun h20=>gm h0 fun h21=>?_))))
 obtain ⟨q5,Eq5,h⟩:=zc h
 refine gv (.int .u64 q5) (XP h21 rfl Eq5) fun h22=>g2 20 22 (.int .u64 (IntKind.u64.wrap ((yO .u64 (IntKind.u64.wrap (q4 + (IntKind.u64.wrap ((yO .u64 q3 3689348814741910323) + (yO .u64 (IntKind.u64.wrap ((yO .u64 q2 6148914691236517205) + (yO .u64 x1.v 6148914691236517205))) 3689348814741910323))))) 1085102592571150095) + q5))) h20 h22 fun h23=>gm h23 fun h0=>gq (.nsq (.seq (rg (gm h0 fun h24=>gm h0 fun h25=>?_))))
 obtain ⟨q6,Eq6,h⟩:=zc h
 refine gv (.int .u64 q6) (XP h25 rfl Eq6) fun h26=>g2 24 26 (.int .u64 (IntKind.u64.wrap ((IntKind.u64.wrap ((yO .u64 (IntKind.u64.wrap (q4 + (IntKind.u64.wrap ((yO .u64 q3 3689348814741910323) + (yO .u64 (IntKind.u64.wrap ((yO .u64 q2 6148914691236517205) + (yO .u64 x1.v 6148914691236517205))) 3689348814741910323))))) 1085102592571150095) + q5)) + q6))) h24 h26 fun h27=>gm h27 fun h0=>gz [(0,_),(2,_)] ⟨h0,h2⟩ ?_
 rintro s ⟨h0,h2⟩
 refine .nsq (.seq (rg (gm h0 fun h28=>gm h0 fun h29=>?_)))
 obtain ⟨q7,Eq7,h⟩:=zc h
 refine gv (.int .u64 q7) (XP h29 rfl Eq7) fun h30=>g2 28 30 (.int .u64 (IntKind.u64.wrap ((IntKind.u64.wrap ((IntKind.u64.wrap ((yO .u64 (IntKind.u64.wrap (q4 + (IntKind.u64.wrap ((yO .u64 q3 3689348814741910323) + (yO .u64 (IntKind.u64.wrap ((yO .u64 q2 6148914691236517205) + (yO .u64 x1.v 6148914691236517205))) 3689348814741910323))))) 1085102592571150095) + q5)) + q6)) + q7))) h28 h30 fun h31=>?_
 refine gm h31 fun h0=>gq (.nsq (.seq (rg (gm h0 fun h32=>g1 32 (ji (w64 (IntKind.u64.wrap ((IntKind.u64.wrap ((IntKind.u64.wrap ((yO .u64 (IntKind.u64.wrap (q4 + (IntKind.u64.wrap ((yO .u64 q3 3689348814741910323) + (yO .u64 (IntKind.u64.wrap ((yO .u64 q2 6148914691236517205) + (yO .u64 x1.v 6148914691236517205))) 3689348814741910323))))) 1085102592571150095) + q5)) + q6)) + q7)))) h32 fun h33=>?_))))
 refine g1 33 (ji (yO .i64 (w64 (IntKind.u64.wrap ((IntKind.u64.wrap ((IntKind.u64.wrap ((yO .u64 (IntKind.u64.wrap (q4 + (IntKind.u64.wrap ((yO .u64 q3 3689348814741910323) + (yO .u64 (IntKind.u64.wrap ((yO .u64 q2 6148914691236517205) + (yO .u64 x1.v 6148914691236517205))) 3689348814741910323))))) 1085102592571150095) + q5)) + q6)) + q7))) 127)) h33 fun h34=>gm h34 fun h2=>gq (.nsq (.ret ?_))
 obtain rfl:=oi h
 exact rrA (zm h2) rfl
end
def e60 (F:Nat):Ent:=ent 60 (fun (x:((Kd .u64)×Unit))=>uC F x.1) (fun (r:Int)=>(Enc.enc (r:Int))) 0 false []
abbrev C60 (D:List V→Option V) (F:Nat):Prop:=∀ (x0:(Kd .u64)) r,uC F x0=some r→D [Enc.enc x0]=some (Enc.enc (r:Int))
theorem p60 {F:Nat}:C60 (e60 F).den F:=fun x0 _ h=>zS (x0,()) h
theorem o60 {D:Den} {σ:Sig} {F:Nat} (hF:zG Try.prog D σ) (H:H60 D σ F):(e60 F).Ok Try.prog:=by
 refine ziT (f:=60) (show unk 60=60 from rfl) (fun args r h=>?_) ⟨Try.f60,Try.func60,rfl,rfl⟩
 obtain ⟨⟨x0,_⟩,y,rfl,hy,rfl⟩:=zbd h
 exact UL hF (by kernel_rfl) Try.func60 rfl c60 (show 1≤Try.f60.ntmps by decide) (t60 H x0 _ rfl hy)
def ztl:AC:=(.seq (rr [jm 6 0,jx 7 (.call (jf 60) [.t 6]),jm 2 7]) .ret)
def zoy:AC:=(.seq (.cond kf (.seq (rr [jm 3 0,jv 4 (.conv .u32 (.t 3)),jx 5 (.call (jf 59) [.t 4]),jm 2 5]) .ret) .skip) ztl)
def A36:AC:=(.seq (rr [jv 2 (.mov (jn 0))]) zoy)
def zuJ:List An:=[]
theorem c36:cq Try.prog Try.f36 zuJ=some A36:=by kernel_rfl
structure H36 (D:Den) (σ:Sig) (F:Nat):Prop where
 c60:C60 (D 60) F
 g60:σ 60=some (0,false)
abbrev R36 (r:Int):(Nat→V)→Prop:=RR Try.prog [.tmp 2] 0 false (Enc.enc (r:Int))
section
variable {r:Int}
def wR (F:Nat) (x1:(Kd .u64)):Option Int:=
 (uC F (Kd.mk x1.v:Kd .u64)).bind fun r2=>
 some r2
theorem t36 (H:H36 D σ F) (x1:(Kd .u64)) (s:Nat→V) (hs:zr [(0,.int .u64 x1.v)] s) (h:wR F x1=some r):Run D σ (R36 r) (.run A36 []) s:=by
 unfold wR at h
 have h0:=hs
 refine .seq (rg (g0 (ji 0) fun h2=>gq (.nsq (.seq (zgB rfl (.skip (.nsq (.seq (rg (gm h0 fun h6=>?_))))))))))
 obtain ⟨r2,Er2,h⟩:=zc h
 refine gcF [Enc.enc ((Kd.mk x1.v:Kd .u64):(Kd .u64))] (zf h6 rfl rfl zC) (H.c60 _ _ Er2) H.g60 (gm (rf (ji r2)) fun h2=>gq (.nsq (.ret ?_)))
 obtain rfl:=oi h
 exact rrA (zm h2) rfl
end
def e36 (F:Nat):Ent:=ent 36 (fun (x:((Kd .u64)×Unit))=>wR F x.1) (fun (r:Int)=>(Enc.enc (r:Int))) 0 false []
abbrev C36 (D:List V→Option V) (F:Nat):Prop:=∀ (x0:(Kd .u64)) r,wR F x0=some r→D [Enc.enc x0]=some (Enc.enc (r:Int))
theorem p36 {F:Nat}:C36 (e36 F).den F:=fun x0 _ h=>zS (x0,()) h
theorem o36 {D:Den} {σ:Sig} {F:Nat} (hF:zG Try.prog D σ) (H:H36 D σ F):(e36 F).Ok Try.prog:=by
 refine ziT (f:=36) (show unk 36=36 from rfl) (fun args r h=>?_) ⟨Try.f36,Try.func36,rfl,rfl⟩
 obtain ⟨⟨x0,_⟩,y,rfl,hy,rfl⟩:=zbd h
 exact UL hF (by kernel_rfl) Try.func36 rfl c36 (show 1≤Try.f36.ntmps by decide) (t36 H x0 _ rfl hy)
def zs4:AC:=(rr [jm 25 8,jv 26 (.fld (.t 10) 0 0),jl 27 26,jv 28 (.conv .u64 (.t 27)),jx 29 (.call (jf 36) [.t 28]),jv 30 (.mx [.t 25,.t 29]),jm 8 30])
def zs8:AC:=(rr [jv 31 (.bin .add (.t 21) (jn 1)),jm 21 31])
def zqj:AC:=(.seq (.block 1 (.seq (.reg [.clr [10]] [jv 23 (.idx (.t 19) (.t 21) 2),jv 24 (.load (.ag [.s,.s]) (.t 23)),jx 10 (.alloc (.agg [i0,i0])),jz (.store (.ag [.s,.s]) (.t 10) (.t 24))] []) zs4)) zs8)
def zoX:AC:=(.seq (.cond (.t 22) .skip (.exit 0)) zqj)
def ziY:AC:=(.seq (rr [jv 22 (.bin .lss (.t 21) (.t 20))]) zoX)
def zlq:AC:=(.seq (rr [jm 32 8,jm 4 32,jv 5 (.mov kt)]) .ret)
def zr0:AC:=(.cond (.t 18) (.seq (rr [jv 4 (.mov (jn 0)),jv 5 (.mov kf)]) .ret) .skip)
def zn7:AC:=(.block 0 (.loop ziY))
def zmc:AC:=(.seq (.seq (rr [jm 19 6,jk 20 19,jv 21 (.mov (jn 0))]) zn7) zlq)
def zl7:AC:=(.seq (rr [jv 8 (.mov (jn 0))]) zmc)
def zsd:AC:=(.seq (.seq (rr [jm 17 7,jv 18 (.un .not (.t 17))]) zr0) zl7)
def zpL:AC:=(.seq (rr [jv 12 (.load (.ag [.s,.p]) (.t 2)),jm 13 1,jx 14 (.call (jf 26) [.t 12,.t 13]),jm 11 14,jv 15 (.ext (.t 11) 0),jv 16 (.extS (.t 11) 1),jm 6 15,jm 7 16]) zsd)
def A15:AC:=(.seq (.reg [.clr [2]] [jx 2 (.box (.t 0)),jv 4 (.mov (jn 0)),jv 5 (.mov kf)] []) zpL)
def zvn:List An:=[⟨0,[.clr [2]],[],[],[]⟩,⟨7,[.clr [10]],[],[],[]⟩]
theorem c15:cq Try.prog Try.f15 zvn=some A15:=by kernel_rfl
structure H15 (D:Den) (σ:Sig) (F:Nat):Prop where
 c26:C26 (D 26) F
 g26:σ 26=some (0,true)
 c36:C36 (D 36) F
 g36:σ 36=some (0,false)
abbrev R15 (r:(Int×Bool)):(Nat→V)→Prop:=RR Try.prog [.tmp 4,.tmp 5] 0 false (.tup [Enc.enc (r.1:Int),Enc.enc (r.2:Bool)])
section
variable {r:(Int×Bool)}
def xS (F:Nat) (r3:(TP×Bool)) :Nat→Int→Int→Option (Int×Bool)
 | 0,_,_=>none
 | k + 1,x6,x7=>
   bif decide (x7 < (r3.1.length:Int)) then
    (idx r3.1 x7).bind fun v10=>
    (wR F (Kd.mk (IntKind.u64.wrap v10.1):Kd .u64)).bind fun r11=>
    (xS F r3 k) (if r11 > x6 then r11 else x6) (w64 (x7 + 1))
   else
    some (x6,true)
theorem zjn (H:H15 D σ F) (r3:(TP×Bool)) :∀ (k:Nat) (x6:Int) (x7:Int) (s:Nat→V),zr [(4,ji 0),(5,jb false),(8,ji x6),(19,eP r3.1),(20,ji (r3.1.length:Int)),(21,ji x7)] s→xS F r3 k x6 x7=some r→Run D σ (R15 r) (.run ziY [.lp ziY,.bk 0,.sq zlq]) s:=by
 intro k
 induction k with
 | zero=>intro x6 x7 s _ h;exact nm h
 | succ k ih=>
   intro x6 x7 s hs h
   rw [xS] at h
   obtain ⟨h4,h5,h8,h19,h20,h21⟩:=hs
   refine .seq (rg (g2 21 20 (jb (decide (x7 < (r3.1.length:Int)))) h21 h20 fun h22=>gq (.nsq (.seq (zn h22 h (fun h=>?_) (fun h=>?_))))))
   · refine .skip (.nsq (.seq (.block (.seq (zw (zW ?_))))))
     refine ez [(4,_),(5,_),(8,_),(10,_),(19,_),(20,_),(21,_)] ⟨za h4 rfl mi,za h5 rfl mb,za h8 rfl mi,ze rfl,za h19 rfl me,za h20 rfl mi,za h21 rfl mi⟩ ?_
     rintro s ⟨h4,h5,h8,h10,h19,h20,h21⟩
     obtain ⟨v10,Ev10,h⟩:=zc h
     refine gv (.ref .sh 0 [] (.agg [ji v10.1,ji v10.2])) (yg (t:=.sh) (lo:=0) (xs:=r3.1) h19 h21 Ev10 rfl rfl) fun h23=>g1 23 (.agg [ji v10.1,ji v10.2]) h23 fun h24=>y9 h10 (z5 (.agg [ji v10.1,ji v10.2]) (zB rfl rfl) (zB h24 rfl) (xo (by first | rfl | simp [V.toks,V.tokss,Enc.toks_enc,zY])) (gz [(4,ji 0),(5,jb false),(8,ji x6),(10,.ref (.bx 10) 0 [] (.agg [ji v10.1,ji v10.2])),(19,eP r3.1),(20,ji (r3.1.length:Int)),(21,ji x7)] ⟨zd h4 rfl,zd h5 rfl,zd h8 rfl,zd rfl rfl,zd h19 uE,zd h20 rfl,zd h21 rfl⟩ ?_))
     rintro s ⟨h4,h5,h8,h10,h19,h20,h21⟩
     refine .nsq (rg (gm h8 fun h25=>g1 10 (.ref (.bx 10) 0 [0] (ji v10.1)) h10 fun h26=>g1 26 (ji v10.1) h26 fun h27=>g1 27 (.int .u64 (IntKind.u64.wrap v10.1)) h27 fun h28=>?_))
     obtain ⟨r11,Er11,h⟩:=zc h
     refine gcF [Enc.enc ((Kd.mk (IntKind.u64.wrap v10.1):Kd .u64):(Kd .u64))] (zf h28 rfl rfl zC) (H.c36 _ _ Er11) H.g36 (g2 25 29 (ji (if r11 > x6 then r11 else x6)) h25 (rf (ji r11)) fun h30=>gm h30 fun h8=>gq (.nbk (.nsq (rg (g1 21 (ji (w64 (x7 + 1))) h21 fun h31=>gm h31 fun h21=>gq (.nlp ?_))))))
     exact ih (if r11 > x6 then r11 else x6) (w64 (x7 + 1)) _ ⟨h4,h5,h8,h19,h20,h21⟩ h
   refine .exit (.esq (.elp (.ebk (.nsq (.seq (rg (gm h8 fun h32=>gm h32 fun h4=>g0 (jb true) fun h5=>gq (.nsq (.ret ?_)))))))))
   obtain rfl:=oi h
   exact rrB (zm h4) (zm h5) rfl
def xF (F:Nat) (x1:GR) (x2:LI):Option (Int×Bool):=
 (wo F x1 x2).bind fun r3=>
 bif (!r3.2) then
  some (0,false)
 else
  xS F r3 F 0 0
theorem t15 (H:H15 D σ F) (x1:GR) (x2:LI) (s:Nat→V) (hs:zr [(0,gV x1),(1,eL x2)] s) (h:xF F x1 x2=some r):Run D σ (R15 r) (.run A15 []) s:=by
 unfold xF at h
 obtain ⟨h0,h1⟩:=hs
 refine .seq (zw (zW ?_))
 refine ez [(0,_),(1,_),(2,_)] ⟨za h0 rfl mIE,za h1 rfl me,ze rfl⟩ ?_
 rintro s ⟨h0,h1,h2⟩
 refine xn (gV x1) (zB h0 rfl) h2 rfl (g0 (ji 0) fun h4=>g0 (jb false) fun h5=>gq (.nsq (.seq (rg (g1 2 (gV x1) (rf (bG 2 x1)) fun h12=>gm h1 fun h13=>?_)))))
 obtain ⟨r3,Er3,h⟩:=zc h
 refine xT (m:=0) (al:=true) (r:=.tup [eP r3.1,Enc.enc (r3.2:Bool)]) [Enc.enc (x1:GR),eL x2] (zf h12 rfl (Enc.erase_enc (x1:GR)) (zf h13 rfl (Enc.erase_enc (x2:LI)) zC)) (H.c26 _ _ _ Er3) H.g26 (we (yc (v:=gV x1) h12 rfl rfl (yc (v:=eL x2) h13 rfl rfl wd))) rfl rfl rfl (gm (rf (.tup [eP r3.1,jb r3.2])) fun h11=>g1 11 (eP r3.1) h11 fun h15=>g1 11 (jb r3.2) h11 fun h16=>gm h15 fun h6=>gm h16 fun h7=>gq (.nsq (.seq (.seq (rg (gm h7 fun h17=>g1 17 (jb (!r3.2)) h17 fun h18=>gq (.nsq (zn h18 h (fun h=>?_) (fun h=>?_)))))))))
 · refine .seq (rg (g0 (ji 0) fun h4=>g0 (jb false) fun h5=>gq (.nsq (.ret ?_))))
   obtain rfl:=oi h
   exact rrB (zm h4) (zm h5) rfl
 refine .skip (.nsq (.seq (rg (g0 (ji 0) fun h8=>gq (.nsq (.seq (.seq (rg (gm h6 fun h19=>gl r3.1 h19 fun h20=>g0 (ji 0) fun h21=>gq (.nsq (.block (.loop ?_))))))))))))
 exact zjn H r3 F 0 0 _ ⟨h4,h5,h8,h19,h20,h21⟩ h
end
def e15 (F:Nat):Ent:=ent 15 (fun (x:(GR×LI×Unit))=>xF F x.1 x.2.1) (fun (r:(Int×Bool))=>(.tup [Enc.enc (r.1:Int),Enc.enc (r.2:Bool)])) 0 false []
abbrev C15 (D:List V→Option V) (F:Nat):Prop:=∀ (x0:GR) (x1:LI) r,xF F x0 x1=some r→D [Enc.enc x0,Enc.enc x1]=some (.tup [Enc.enc (r.1:Int),Enc.enc (r.2:Bool)])
theorem p15 {F:Nat}:C15 (e15 F).den F:=fun x0 x1 _ h=>zS (x0,x1,()) h
theorem o15 (hF:zG Try.prog D σ) (H:H15 D σ F):(e15 F).Ok Try.prog:=okZ (f:=15) Try.func15 fun ⟨x0,x1,_⟩ y hy=>cR hF Try.func15 c15 (t15 H x0 x1 _ ⟨rfl,rfl⟩ hy)
def zr4:AC:=(.cond (.t 24) .skip (.exit 0))
def zpG:AC:=(rr [jm 25 8,jv 26 (.bin .add (.t 25) (jn 1)),jm 8 26])
def zp9:AC:=(.seq (.block 1 (rr [jm 27 6,jm 28 7,jm 29 8,jv 30 (.idx (.t 28) (.t 29) 2),jv 31 (.fld (.t 30) 0 0),jv 32 (.load .p (.t 31)),jk 33 32,jx 34 (.call (jf 37) [.t 27,.t 33]),jm 6 34])) zpG)
def zg0:AC:=(.seq (.seq (rr [jm 21 8,jm 22 7,jk 23 22,jv 24 (.bin .lss (.t 21) (.t 23))]) zr4) zp9)
def zlR:AC:=(.seq (rr [jm 35 6,jm 4 35,jv 5 (.mov kt)]) .ret)
def zll:AC:=(.cond (.t 17) (.seq (rr [jv 4 (.mov (jn 0)),jv 5 (.mov kf)]) .ret) .skip)
def zsa:AC:=(.block 0 (.loop zg0))
def zuk:AC:=(.seq (.seq (rr [jv 8 (.mov (jn 0))]) zsa) zlR)
def zk5:AC:=(.seq (rr [jv 18 (.load (.ag [.s,.p]) (.t 2)),jm 19 1,jx 20 (.call (jf 30) [.t 18,.t 19]),jv 6 (.mov (jn 0)),jm 7 20]) zuk)
def zmz:AC:=(.seq (.seq (rr [jv 9 (.load (.ag [.s,.p]) (.t 2)),jx 10 (.call (jf 28) [.t 9]),jv 11 (.un .not (.t 10)),jm 12 11,jg 13 12 false (.load (.ag [.s,.p]) (.t 2)),jg 14 12 false (.mov (.t 1)),.mk (some 15) (some (12,false)) false (.call (jf 29) [.t 13,.t 14]),jg 16 12 false (.un .not (.t 15)),jv 17 (.pick (.t 12) kt (.t 16))]) zll) zk5)
def A16:AC:=(.seq (.reg [.clr [2]] [jx 2 (.box (.t 0)),jv 4 (.mov (jn 0)),jv 5 (.mov kf)] []) zmz)
def zwn:List An:=[⟨0,[.clr [2]],[],[],[]⟩]
theorem c16:cq Try.prog Try.f16 zwn=some A16:=by kernel_rfl
structure H16 (D:Den) (σ:Sig) (F:Nat):Prop where
 c28:C28 (D 28) F
 g28:σ 28=some (0,false)
 c29:C29 (D 29) F
 g29:σ 29=some (0,false)
 c30:C30 (D 30) F
 g30:σ 30=some (0,true)
 c37:C37 (D 37) F
 g37:σ 37=some (0,false)
abbrev R16 (r:(Int×Bool)):(Nat→V)→Prop:=RR Try.prog [.tmp 4,.tmp 5] 0 false (.tup [Enc.enc (r.1:Int),Enc.enc (r.2:Bool)])
section
variable {r:(Int×Bool)}
def xR (F:Nat) (r6:(List (LI×LI))) :Nat→Int→Int→Option (Int×Bool)
 | 0,_,_=>none
 | k + 1,x9,x10=>
   bif decide (x10 < (r6.length:Int)) then
    (idx r6 x10).bind fun v13=>
    (YX F x9 (v13.1.length:Int)).bind fun r14=>
    (xR F r6 k) r14 (w64 (x10 + 1))
   else
    some (x9,true)
theorem zjg (H:H16 D σ F) (r6:(List (LI×LI))) :∀ (k:Nat) (x9:Int) (x10:Int) (s:Nat→V),zr [(4,ji 0),(5,jb false),(6,ji x9),(7,Enc.enc (r6:List (LI×LI))),(8,ji x10)] s→xR F r6 k x9 x10=some r→Run D σ (R16 r) (.run zg0 [.lp zg0,.bk 0,.sq zlR]) s:=by
 intro k
 induction k with
 | zero=>intro x9 x10 s _ h;exact nm h
 | succ k ih=>
   intro x9 x10 s hs h
   rw [xR] at h
   obtain ⟨h4,h5,h6,h7,h8⟩:=hs
   refine .seq (.seq (rg (gm h8 fun h21=>gm h7 fun h22=>gl r6 h22 fun h23=>g2 21 23 (jb (decide (x10 < (r6.length:Int)))) h21 h23 fun h24=>gq (.nsq (zn h24 h (fun h=>?_) (fun h=>?_))))))
   · refine .skip (.nsq (.seq (.block (rg (gm h6 fun h27=>gm h7 fun h28=>gm h8 fun h29=>?_)))))
     obtain ⟨v13,Ev13,h⟩:=zc h
     refine gv (.ref .sh 0 [] (.agg [eL v13.1,eL v13.2])) (yg (t:=.sh) (lo:=0) (xs:=r6) h28 h29 Ev13 rfl rfl) fun h30=>g1 30 (.ref .sh 0 [0] (eL v13.1)) h30 fun h31=>g1 31 (eL v13.1) h31 fun h32=>gl v13.1 h32 fun h33=>?_
     obtain ⟨r14,Er14,h⟩:=zc h
     refine gcF [Enc.enc (x9:Int),Enc.enc ((v13.1.length:Int):Int)] (zf h27 rfl rfl (zf h33 rfl rfl zC)) (H.c37 _ _ _ Er14) H.g37 (gm (rf (ji r14)) fun h6=>gq (.nbk (.nsq (rg (gm h8 fun h25=>g1 25 (ji (w64 (x10 + 1))) h25 fun h26=>gm h26 fun h8=>gq (.nlp ?_))))))
     exact ih r14 (w64 (x10 + 1)) _ ⟨h4,h5,h6,h7,h8⟩ h
   refine .exit (.esq (.elp (.ebk (.nsq (.seq (rg (gm h6 fun h35=>gm h35 fun h4=>g0 (jb true) fun h5=>gq (.nsq (.ret ?_)))))))))
   obtain rfl:=oi h
   exact rrB (zm h4) (zm h5) rfl
def vE (F:Nat) (x2:LI) (x1:GR)  (x5:Bool):Option (Int×Bool):=
 bif x5 then
  some (0,false)
 else
  (ul F x1 x2).bind fun r6=>
  xR F r6 F 0 0
theorem zcd (H:H16 D σ F) (x2:LI) (x1:GR)  (x5:Bool) (s:Nat→V) (hs:zr [(1,eL x2),(2,bG 2 x1),(4,ji 0),(5,jb false),(17,jb x5)] s) (h:vE F x2 x1  x5=some r):Run D σ (R16 r) (.nrm [.sq zll,.sq zk5]) s:=by
 unfold vE at h
 obtain ⟨h1,h2,h4,h5,h17⟩:=hs
 refine .nsq (zn h17 h (fun h=>?_) (fun h=>?_))
 · refine .seq (rg (g0 (ji 0) fun h4=>g0 (jb false) fun h5=>gq (.nsq (.ret ?_))))
   obtain rfl:=oi h
   exact rrB (zm h4) (zm h5) rfl
 refine .skip (.nsq (.seq (rg (g1 2 (gV x1) h2 fun h18=>gm h1 fun h19=>?_))))
 obtain ⟨r6,Er6,h⟩:=zc h
 refine xT (m:=0) (al:=true) (r:=Enc.enc (r6:(List (LI×LI)))) [Enc.enc (x1:GR),eL x2] (zf h18 rfl (Enc.erase_enc (x1:GR)) (zf h19 rfl (Enc.erase_enc (x2:LI)) zC)) (H.c30 _ _ _ Er6) H.g30 (we (yc (v:=gV x1) h18 rfl rfl (yc (v:=eL x2) h19 rfl rfl wd))) rfl rfl rfl (g0 (ji 0) fun h6=>gm (rf (Enc.enc (r6:List (LI×LI)))) fun h7=>gq (.nsq (.seq (.seq (rg (g0 (ji 0) fun h8=>gq (.nsq (.block (.loop ?_)))))))))
 exact zjg H r6 F 0 0 _ ⟨h4,h5,h6,h7,h8⟩ h
def wt (F:Nat) (x1:GR) (x2:LI):Option (Int×Bool):=
 (ug F x1).bind fun r15=>
 bif (!r15) then
  vE F x2 x1 true
 else
  (wS F x1 x2).bind fun r16=>
  vE F x2 x1 (!r16)
theorem t16 (H:H16 D σ F) (x1:GR) (x2:LI) (s:Nat→V) (hs:zr [(0,gV x1),(1,eL x2)] s) (h:wt F x1 x2=some r):Run D σ (R16 r) (.run A16 []) s:=by
 unfold wt at h
 obtain ⟨h0,h1⟩:=hs
 refine .seq (zw (zW ?_))
 refine ez [(0,_),(1,_),(2,_)] ⟨za h0 rfl mIE,za h1 rfl me,ze rfl⟩ ?_
 rintro s ⟨h0,h1,h2⟩
 refine xn (gV x1) (zB h0 rfl) h2 rfl (g0 (ji 0) fun h4=>g0 (jb false) fun h5=>gq (.nsq (.seq (.seq (rg (g1 2 (gV x1) (rf (bG 2 x1)) fun h9=>?_))))))
 obtain ⟨r15,Er15,h⟩:=zc h
 refine gcF [Enc.enc (x1:GR)] (zf h9 rfl (Enc.erase_enc (x1:GR)) zC) (H.c28 _ _ Er15) H.g28 (g1 10 (jb (!r15)) (rf (jb r15)) fun h11=>gm h11 fun h12=>zX h (fun hg4 h=>?_) (fun hg4 h=>?_))
 · iterate 4 refine yq (ct h12 hg4) ?_
   refine g2 12 16 (jb true) (ct h12 hg4) (rf (.tup [])) fun h17=>gq ?_
   exact zcd H x2 x1 true _ ⟨h1,rfl,h4,h5,h17⟩ h
 refine zp (ct h12 hg4) (g1 2 (gV x1) (rf (bG 2 x1)) fun h13=>zp (ct h12 hg4) (gm h1 fun h14=>?_))
 obtain ⟨r16,Er16,h⟩:=zc h
 refine zp (ct h12 hg4) (gcF [Enc.enc (x1:GR),eL x2] (zf h13 rfl (Enc.erase_enc (x1:GR)) (zf h14 rfl (Enc.erase_enc (x2:LI)) zC)) (H.c29 _ _ _ Er16) H.g29 (zp (ct h12 hg4) (g1 15 (jb (!r16)) (rf (jb r16)) fun h16=>g2 12 16 (jb (!r16)) (ct h12 hg4) h16 fun h17=>gq ?_)))
 exact zcd H x2 x1 (!r16) _ ⟨h1,rfl,h4,h5,h17⟩ h
end
def e16 (F:Nat):Ent:=ent 16 (fun (x:(GR×LI×Unit))=>wt F x.1 x.2.1) (fun (r:(Int×Bool))=>(.tup [Enc.enc (r.1:Int),Enc.enc (r.2:Bool)])) 0 false []
abbrev C16 (D:List V→Option V) (F:Nat):Prop:=∀ (x0:GR) (x1:LI) r,wt F x0 x1=some r→D [Enc.enc x0,Enc.enc x1]=some (.tup [Enc.enc (r.1:Int),Enc.enc (r.2:Bool)])
theorem p16 {F:Nat}:C16 (e16 F).den F:=fun x0 x1 _ h=>zS (x0,x1,()) h
theorem o16 (hF:zG Try.prog D σ) (H:H16 D σ F):(e16 F).Ok Try.prog:=okZ (f:=16) Try.func16 fun ⟨x0,x1,_⟩ y hy=>cR hF Try.func16 c16 (t16 H x0 x1 _ ⟨rfl,rfl⟩ hy)
def zt6:AC:=(.cond (.t 9) .skip (.exit 0))
def ztR:AC:=(.cond (.t 17) (.seq (rr [jv 4 (.mov kt)]) .ret) .skip)
def zp5:AC:=(rr [jm 10 5,jv 11 (.bin .add (.t 10) (jn 1)),jm 5 11])
def ztK:AC:=(.seq (.block 1 (.seq (rr [jm 12 0,jm 13 5,jv 14 (.idx (.t 12) (.t 13) 1),jl 15 14,jm 16 1,jv 17 (.bin .eql (.t 15) (.t 16))]) ztR)) zp5)
def zi7:AC:=(.seq (.seq (rr [jm 6 5,jm 7 0,jk 8 7,jv 9 (.bin .lss (.t 6) (.t 8))]) zt6) ztK)
def zlE:AC:=(.seq (rr [jv 4 (.mov kf)]) .ret)
def zss:AC:=(.block 0 (.loop zi7))
def zrI:AC:=(.seq (.seq (rr [jv 5 (.mov (jn 0))]) zss) zlE)
def A38:AC:=(.seq (rr [jv 4 (.mov kf)]) zrI)
def zvk:List An:=[]
theorem c38:cq Try.prog Try.f38 zvk=some A38:=by kernel_rfl
structure H38 (D:Den) (σ:Sig) (F:Nat):Prop where
 mk ::
abbrev R38 (r:Bool):(Nat→V)→Prop:=RR Try.prog [.tmp 4] 0 false (Enc.enc (r:Bool))
section
variable {r:Bool}
def Xm (F:Nat) (x1:LI) (x2:Int) :Nat→Int→Option Bool
 | 0,_=>none
 | k + 1,x4=>
   bif decide (x4 < (x1.length:Int)) then
    (idx x1 x4).bind fun v6=>
    bif (v6 == x2) then
     some true
    else
     (Xm F x1 x2 k) (w64 (x4 + 1))
   else
    some false
theorem zhb (H:H38 D σ F) (x1:LI) (x2:Int) :∀ (k:Nat) (x4:Int) (s:Nat→V),zr [(0,eL x1),(1,ji x2),(4,jb false),(5,ji x4)] s→Xm F x1 x2 k x4=some r→Run D σ (R38 r) (.run zi7 [.lp zi7,.bk 0,.sq zlE]) s:=by
 intro k
 induction k with
 | zero=>intro x4 s _ h;exact nm h
 | succ k ih=>
   intro x4 s hs h
   rw [Xm] at h
   obtain ⟨h0,h1,h4,h5⟩:=hs
   refine .seq (.seq (rg (gm h5 fun h6=>gm h0 fun h7=>gl x1 h7 fun h8=>g2 6 8 (jb (decide (x4 < (x1.length:Int)))) h6 h8 fun h9=>gq (.nsq (zn h9 h (fun h=>?_) (fun h=>?_))))))
   · refine .skip (.nsq (.seq (.block (.seq (rg (gm h0 fun h12=>gm h5 fun h13=>?_))))))
     obtain ⟨v6,Ev6,h⟩:=zc h
     refine gv (.ref .sh 0 [] (ji v6)) (yg (t:=.sh) (lo:=0) (xs:=x1) h12 h13 Ev6 rfl rfl) fun h14=>g1 14 (ji v6) h14 fun h15=>gm h1 fun h16=>g2 15 16 (jb (v6 == x2)) h15 h16 fun h17=>gq (.nsq (zn h17 h (fun h=>?_) (fun h=>?_)))
     · refine .seq (rg (g0 (jb true) fun h4=>gq (.nsq (.ret ?_))))
       obtain rfl:=oi h
       exact rrA (zm h4) rfl
     refine .skip (.nbk (.nsq (rg (gm h5 fun h10=>g1 10 (ji (w64 (x4 + 1))) h10 fun h11=>gm h11 fun h5=>gq (.nlp ?_)))))
     exact ih (w64 (x4 + 1)) _ ⟨h0,h1,h4,h5⟩ h
   refine .exit (.esq (.elp (.ebk (.nsq (.seq (rg (g0 (jb false) fun h4=>gq (.nsq (.ret ?_)))))))))
   obtain rfl:=oi h
   exact rrA (zm h4) rfl
def J8 (F:Nat) (x1:LI) (x2:Int):Option Bool:=
 Xm F x1 x2 F 0
theorem t38 (H:H38 D σ F) (x1:LI) (x2:Int) (s:Nat→V) (hs:zr [(0,eL x1),(1,ji x2)] s) (h:J8 F x1 x2=some r):Run D σ (R38 r) (.run A38 []) s:=by
 unfold J8 at h
 obtain ⟨h0,h1⟩:=hs
 refine .seq (rg (g0 (jb false) fun h4=>gq (.nsq (.seq (.seq (rg (g0 (ji 0) fun h5=>gq (.nsq (.block (.loop ?_))))))))))
 exact zhb H x1 x2 F 0 _ ⟨h0,h1,h4,h5⟩ h
end
def e38 (F:Nat):Ent:=ent 38 (fun (x:(LI×Int×Unit))=>J8 F x.1 x.2.1) (fun (r:Bool)=>(Enc.enc (r:Bool))) 0 false []
abbrev C38 (D:List V→Option V) (F:Nat):Prop:=∀ (x0:LI) (x1:Int) r,J8 F x0 x1=some r→D [Enc.enc x0,Enc.enc x1]=some (Enc.enc (r:Bool))
theorem p38 {F:Nat}:C38 (e38 F).den F:=fun x0 x1 _ h=>zS (x0,x1,()) h
theorem o38 (hF:zG Try.prog D σ) (H:H38 D σ F):(e38 F).Ok Try.prog:=okZ (f:=38) Try.func38 fun ⟨x0,x1,_⟩ y hy=>cR hF Try.func38 c38 (t38 H x0 x1 _ ⟨rfl,rfl⟩ hy)
def zrd:AC:=(.cond (.t 9) .skip (.exit 0))
def zsx:AC:=(.cond (.t 18) (.seq (rr [jv 4 (.mov kf)]) .ret) .skip)
def zui:AC:=(rr [jm 10 5,jv 11 (.bin .add (.t 10) (jn 1)),jm 5 11])
def ztc:AC:=(.seq (.block 1 (.seq (rr [jm 12 1,jm 13 0,jm 14 5,jv 15 (.idx (.t 13) (.t 14) 1),jl 16 15,jx 17 (.call (jf 38) [.t 12,.t 16]),jv 18 (.un .not (.t 17))]) zsx)) zui)
def ziI:AC:=(.seq (.seq (rr [jm 6 5,jm 7 0,jk 8 7,jv 9 (.bin .lss (.t 6) (.t 8))]) zrd) ztc)
def zlN:AC:=(.seq (rr [jv 4 (.mov kt)]) .ret)
def zsV:AC:=(.block 0 (.loop ziI))
def zsC:AC:=(.seq (.seq (rr [jv 5 (.mov (jn 0))]) zsV) zlN)
def A17:AC:=(.seq (rr [jv 4 (.mov kf)]) zsC)
def zvo:List An:=[]
theorem c17:cq Try.prog Try.f17 zvo=some A17:=by kernel_rfl
structure H17 (D:Den) (σ:Sig) (F:Nat):Prop where
 c38:C38 (D 38) F
 g38:σ 38=some (0,false)
abbrev R17 (r:Bool):(Nat→V)→Prop:=RR Try.prog [.tmp 4] 0 false (Enc.enc (r:Bool))
section
variable {r:Bool}
def Yp (F:Nat) (x1:LI) (x2:LI) :Nat→Int→Option Bool
 | 0,_=>none
 | k + 1,x5=>
   bif decide (x5 < (x1.length:Int)) then
    (idx x1 x5).bind fun v8=>
    (J8 F x2 v8).bind fun r9=>
    bif (!r9) then
     some false
    else
     (Yp F x1 x2 k) (w64 (x5 + 1))
   else
    some true
theorem zg8 (H:H17 D σ F) (x1:LI) (x2:LI) :∀ (k:Nat) (x5:Int) (s:Nat→V),zr [(0,eL x1),(1,eL x2),(4,jb false),(5,ji x5)] s→Yp F x1 x2 k x5=some r→Run D σ (R17 r) (.run ziI [.lp ziI,.bk 0,.sq zlN]) s:=by
 intro k
 induction k with
 | zero=>intro x5 s _ h;exact nm h
 | succ k ih=>
   intro x5 s hs h
   rw [Yp] at h
   obtain ⟨h0,h1,h4,h5⟩:=hs
   refine .seq (.seq (rg (gm h5 fun h6=>gm h0 fun h7=>gl x1 h7 fun h8=>g2 6 8 (jb (decide (x5 < (x1.length:Int)))) h6 h8 fun h9=>gq (.nsq (zn h9 h (fun h=>?_) (fun h=>?_))))))
   · refine .skip (.nsq (.seq (.block (.seq (rg (gm h1 fun h12=>gm h0 fun h13=>gm h5 fun h14=>?_))))))
     obtain ⟨v8,Ev8,h⟩:=zc h
     refine gv (.ref .sh 0 [] (ji v8)) (yg (t:=.sh) (lo:=0) (xs:=x1) h13 h14 Ev8 rfl rfl) fun h15=>g1 15 (ji v8) h15 fun h16=>?_
     obtain ⟨r9,Er9,h⟩:=zc h
     refine gcF [eL x2,Enc.enc (v8:Int)] (zf h12 rfl (Enc.erase_enc (x2:LI)) (zf h16 rfl rfl zC)) (H.c38 _ _ _ Er9) H.g38 (g1 17 (jb (!r9)) (rf (jb r9)) fun h18=>gq (.nsq (zn h18 h (fun h=>?_) (fun h=>?_))))
     · refine .seq (rg (g0 (jb false) fun h4=>gq (.nsq (.ret ?_))))
       obtain rfl:=oi h
       exact rrA (zm h4) rfl
     refine .skip (.nbk (.nsq (rg (gm h5 fun h10=>g1 10 (ji (w64 (x5 + 1))) h10 fun h11=>gm h11 fun h5=>gq (.nlp ?_)))))
     exact ih (w64 (x5 + 1)) _ ⟨h0,h1,h4,h5⟩ h
   refine .exit (.esq (.elp (.ebk (.nsq (.seq (rg (g0 (jb true) fun h4=>gq (.nsq (.ret ?_)))))))))
   obtain rfl:=oi h
   exact rrA (zm h4) rfl
def UX (F:Nat) (x1:LI) (x2:LI):Option Bool:=
 Yp F x1 x2 F 0
theorem t17 (H:H17 D σ F) (x1:LI) (x2:LI) (s:Nat→V) (hs:zr [(0,eL x1),(1,eL x2)] s) (h:UX F x1 x2=some r):Run D σ (R17 r) (.run A17 []) s:=by
 unfold UX at h
 obtain ⟨h0,h1⟩:=hs
 refine .seq (rg (g0 (jb false) fun h4=>gq (.nsq (.seq (.seq (rg (g0 (ji 0) fun h5=>gq (.nsq (.block (.loop ?_))))))))))
 exact zg8 H x1 x2 F 0 _ ⟨h0,h1,h4,h5⟩ h
end
def e17 (F:Nat):Ent:=ent 17 (fun (x:(LI×LI×Unit))=>UX F x.1 x.2.1) (fun (r:Bool)=>(Enc.enc (r:Bool))) 0 false []
abbrev C17 (D:List V→Option V) (F:Nat):Prop:=∀ (x0:LI) (x1:LI) r,UX F x0 x1=some r→D [Enc.enc x0,Enc.enc x1]=some (Enc.enc (r:Bool))
theorem p17 {F:Nat}:C17 (e17 F).den F:=fun x0 x1 _ h=>zS (x0,x1,()) h
theorem o17 (hF:zG Try.prog D σ) (H:H17 D σ F):(e17 F).Ok Try.prog:=okZ (f:=17) Try.func17 fun ⟨x0,x1,_⟩ y hy=>cR hF Try.func17 c17 (t17 H x0 x1 _ ⟨rfl,rfl⟩ hy)
def zo1:AC:=(.cond (.t 22) (rr [jm 23 5,jm 24 7,jv 25 (.bin .shl (jn 1) (.t 24)),jv 26 (.bin .or (.t 23) (.t 25)),jm 5 26]) .skip)
def ztY:AC:=(.seq (rr [jv 15 (.fld (.t 2) 0 0),jv 16 (.load .p (.t 15)),jm 17 7,jv 18 (.idx (.t 16) (.t 17) 1),jl 19 18,jm 20 1,jv 21 (.bin .andNot (.t 19) (.t 20)),jv 22 (.bin .neq (.t 21) (jn 0))]) zo1)
def zlx:AC:=(rr [jv 27 (.bin .add (.t 11) (jn 1)),jm 11 27])
def zqw:AC:=(.seq (.block 1 (.seq (rr [jv 13 (.idx (.t 9) (.t 11) 1),jl 14 13,jm 7 14]) ztY)) zlx)
def zpt:AC:=(.seq (.cond (.t 12) .skip (.exit 0)) zqw)
def QD:AC:=(.seq (rr [jv 12 (.bin .lss (.t 11) (.t 10))]) zpt)
def zfz:AC:=(.seq (rr [jm 28 5,jm 4 28]) .ret)
def zmY:AC:=(.block 0 (.loop QD))
def zrT:AC:=(.seq (.seq (rr [jm 8 1,jx 9 (.call (jf 27) [.t 8]),jk 10 9,jv 11 (.mov (jn 0))]) zmY) zfz)
def zpF:AC:=(.seq (rr [jv 5 (.mov (jn 0))]) zrT)
def A66:AC:=(.seq (.reg [.clr [2]] [jx 2 (.box (.t 0)),jv 4 (.mov (jn 0))] []) zpF)
def zwc:List An:=[⟨0,[.clr [2]],[],[],[]⟩]
theorem c66:cq Try.prog Try.f66 zwc=some A66:=by kernel_rfl
structure H66 (D:Den) (σ:Sig) (F:Nat):Prop where
 c27:C27 (D 27) F
 g27:σ 27=some (0,false)
abbrev R66 (r:Int):(Nat→V)→Prop:=RR Try.prog [.tmp 4] 0 false (Enc.enc (r:Int))
section
variable {r:Int}
def Zw (F:Nat) (x2:Int) (x1:(S1 LI)) (r3:LI) (x10:Int) (c1:Int→Int→Option Int) (x19:Int):Option Int:=
 c1 x19 (w64 (x10 + 1))
theorem zcA (H:H66 D σ F) (x2:Int) (x1:(S1 LI)) (r3:LI) (x10:Int) (c1:Int→Int→Option Int) (Hc1:∀ (x9:Int) (x10:Int) (s:Nat→V),zr [(1,ji x2),(2,.ref (.bx 2) 0 [] (.agg [eL x1.a])),(4,ji 0),(5,ji x9),(9,eL r3),(10,ji (r3.length:Int)),(11,ji x10)] s→c1 x9 x10=some r→Run D σ (R66 r) (.run QD [.lp QD,.bk 0,.sq zfz]) s) (x19:Int) (s:Nat→V) (hs:zr [(1,ji x2),(2,.ref (.bx 2) 0 [] (.agg [eL x1.a])),(4,ji 0),(5,ji x19),(9,eL r3),(10,ji (r3.length:Int)),(11,ji x10)] s) (h:Zw F x2 x1 r3 x10 c1 x19=some r):Run D σ (R66 r) (.nrm [.bk 1,.sq zlx,.lp QD,.bk 0,.sq zfz]) s:=by
 unfold Zw at h
 obtain ⟨h1,h2,h4,h5,h9,h10,h11⟩:=hs
 refine .nbk (.nsq (rg (g1 11 (ji (w64 (x10 + 1))) h11 fun h27=>gm h27 fun h11=>gq (.nlp ?_))))
 exact Hc1 x19 (w64 (x10 + 1)) _ ⟨h1,h2,h4,h5,h9,h10,h11⟩ h
def xN (F:Nat) (x2:Int) (x1:(S1 LI)) (r3:LI) :Nat→Int→Int→Option Int
 | 0,_,_=>none
 | k + 1,x9,x10=>
   bif decide (x10 < (r3.length:Int)) then
    (idx r3 x10).bind fun v16=>
    (idx x1.a v16).bind fun v17=>
    bif ((yS .i64 v17 x2) != 0) then
     (Wc .i64 1 v16).bind fun q20=>
     Zw F x2 x1 r3 x10 (xN F x2 x1 r3 k) (ior .i64 x9 q20)
    else
     Zw F x2 x1 r3 x10 (xN F x2 x1 r3 k) x9
   else
    some x9
theorem zg7 (H:H66 D σ F) (x2:Int) (x1:(S1 LI)) (r3:LI) :∀ (k:Nat) (x9:Int) (x10:Int) (s:Nat→V),zr [(1,ji x2),(2,.ref (.bx 2) 0 [] (.agg [eL x1.a])),(4,ji 0),(5,ji x9),(9,eL r3),(10,ji (r3.length:Int)),(11,ji x10)] s→xN F x2 x1 r3 k x9 x10=some r→Run D σ (R66 r) (.run QD [.lp QD,.bk 0,.sq zfz]) s:=by
 intro k
 induction k with
 | zero=>intro x9 x10 s _ h;exact nm h
 | succ k ih=>
   intro x9 x10 s hs h
   rw [xN] at h
   obtain ⟨h1,h2,h4,h5,h9,h10,h11⟩:=hs
   refine .seq (rg (g2 11 10 (jb (decide (x10 < (r3.length:Int)))) h11 h10 fun h12=>gq (.nsq (.seq (zn h12 h (fun h=>?_) (fun h=>?_))))))
   · refine .skip (.nsq (.seq (.block (.seq (rg ?_)))))
     obtain ⟨v16,Ev16,h⟩:=zc h
     refine gv (.ref .sh 0 [] (ji v16)) (yg (t:=.sh) (lo:=0) (xs:=r3) h9 h11 Ev16 rfl rfl) fun h13=>g1 13 (ji v16) h13 fun h14=>gm h14 fun h7=>gq (.nsq (.seq (rg (g1 2 (.ref (.bx 2) 0 [0] (eL x1.a)) h2 fun h15=>g1 15 (eL x1.a) h15 fun h16=>gm h7 fun h17=>?_))))
     obtain ⟨v17,Ev17,h⟩:=zc h
     refine gv (.ref .sh 0 [] (ji v17)) (yg (t:=.sh) (lo:=0) (xs:=x1.a) h16 h17 Ev17 rfl rfl) fun h18=>g1 18 (ji v17) h18 fun h19=>gm h1 fun h20=>g2 19 20 (ji (yS .i64 v17 x2)) h19 h20 fun h21=>g1 21 (jb ((yS .i64 v17 x2) != 0)) h21 fun h22=>gq (.nsq (zn h22 h (fun h=>?_) (fun h=>?_)))
     · refine rg (gm h5 fun h23=>gm h7 fun h24=>?_)
       obtain ⟨q20,Eq20,h⟩:=zc h
       refine gv (ji q20) (Y9 rfl h24 Eq20) fun h25=>g2 23 25 (ji (ior .i64 x9 q20)) h23 h25 fun h26=>gm h26 fun h5=>gq ?_
       exact zcA H x2 x1 r3 x10 (xN F x2 x1 r3 k) ih (ior .i64 x9 q20) _ ⟨h1,h2,h4,h5,h9,h10,h11⟩ h
     refine .skip ?_
     exact zcA H x2 x1 r3 x10 (xN F x2 x1 r3 k) ih x9 _ ⟨h1,h2,h4,h5,h9,h10,h11⟩ h
   refine .exit (.esq (.elp (.ebk (.nsq (.seq (rg (gm h5 fun h28=>gm h28 fun h4=>gq (.nsq (.ret ?_)))))))))
   obtain rfl:=oi h
   exact rrA (zm h4) rfl
def ZC (F:Nat) (x1:(S1 LI)) (x2:Int):Option Int:=
 (Y2 F x2).bind fun r3=>
 xN F x2 x1 r3 F 0 0
theorem t66 (H:H66 D σ F) (x1:(S1 LI)) (x2:Int) (s:Nat→V) (hs:zr [(0,.agg [eL x1.a]),(1,ji x2)] s) (h:ZC F x1 x2=some r):Run D σ (R66 r) (.run A66 []) s:=by
 unfold ZC at h
 obtain ⟨h0,h1⟩:=hs
 refine .seq (zw (zW ?_))
 refine ez [(0,_),(1,_),(2,_)] ⟨za h0 rfl (zM (zg me zx)),za h1 rfl mi,ze rfl⟩ ?_
 rintro s ⟨h0,h1,h2⟩
 refine xn (.agg [eL x1.a]) (zB h0 rfl) h2 rfl (g0 (ji 0) fun h4=>gq (.nsq (.seq (rg (g0 (ji 0) fun h5=>gq (.nsq (.seq (.seq (rg (gm h1 fun h8=>?_))))))))))
 obtain ⟨r3,Er3,h⟩:=zc h
 refine gcF [Enc.enc (x2:Int)] (zf h8 rfl rfl zC) (H.c27 _ _ Er3) H.g27 (gl r3 rfl fun h10=>g0 (ji 0) fun h11=>gq (.nsq (.block (.loop ?_))))
 exact zg7 H x2 x1 r3 F 0 0 _ ⟨h1,rfl,h4,h5,rfl,h10,h11⟩ h
end
def e66 (F:Nat):Ent:=ent 66 (fun (x:((S1 LI)×Int×Unit))=>ZC F x.1 x.2.1) (fun (r:Int)=>(Enc.enc (r:Int))) 0 false []
abbrev C66 (D:List V→Option V) (F:Nat):Prop:=∀ (x0:(S1 LI)) (x1:Int) r,ZC F x0 x1=some r→D [Enc.enc x0,Enc.enc x1]=some (Enc.enc (r:Int))
theorem p66 {F:Nat}:C66 (e66 F).den F:=fun x0 x1 _ h=>zS (x0,x1,()) h
theorem o66 (hF:zG Try.prog D σ) (H:H66 D σ F):(e66 F).Ok Try.prog:=okZ (f:=66) Try.func66 fun ⟨x0,x1,_⟩ y hy=>cR hF Try.func66 c66 (t66 H x0 x1 _ ⟨rfl,rfl⟩ hy)
def zsP:AC:=(.seq (rr [jv 7 (.load (.ag [.p]) (.t 3)),jm 8 1,jm 9 2,jv 10 (.bin .shl (jn 1) (.t 9)),jv 11 (.bin .or (.t 8) (.t 10)),jx 12 (.call (jf 66) [.t 7,.t 11]),jv 13 (.conv .u64 (.t 12)),jx 14 (.call (jf 36) [.t 13]),jm 6 14]) .ret)
def A45:AC:=(.seq (.reg [.clr [3]] [jx 3 (.box (.t 0)),jv 6 (.mov (jn 0))] []) zsP)
def zvM:List An:=[⟨0,[.clr [3]],[],[],[]⟩]
theorem c45:cq Try.prog Try.f45 zvM=some A45:=by kernel_rfl
structure H45 (D:Den) (σ:Sig) (F:Nat):Prop where
 c66:C66 (D 66) F
 g66:σ 66=some (0,false)
 c36:C36 (D 36) F
 g36:σ 36=some (0,false)
abbrev R45 (r:Int):(Nat→V)→Prop:=RR Try.prog [.tmp 6] 0 false (Enc.enc (r:Int))
section
variable {r:Int}
def xE (F:Nat) (x1:(S1 LI)) (x2:Int) (x3:Int):Option Int:=
 (Wc .i64 1 x3).bind fun q4=>
 (ZC F x1 (ior .i64 x2 q4)).bind fun r5=>
 (wR F (Kd.mk (IntKind.u64.wrap r5):Kd .u64)).bind fun r6=>
 some r6
theorem t45 (H:H45 D σ F) (x1:(S1 LI)) (x2:Int) (x3:Int) (s:Nat→V) (hs:zr [(0,.agg [eL x1.a]),(1,ji x2),(2,ji x3)] s) (h:xE F x1 x2 x3=some r):Run D σ (R45 r) (.run A45 []) s:=by
 unfold xE at h
 obtain ⟨h0,h1,h2⟩:=hs
 refine .seq (zw (zW ?_))
 refine ez [(0,_),(1,_),(2,_),(3,_)] ⟨za h0 rfl (zM (zg me zx)),za h1 rfl mi,za h2 rfl mi,ze rfl⟩ ?_
 rintro s ⟨h0,h1,h2,h3⟩
 refine xn (.agg [eL x1.a]) (zB h0 rfl) h3 rfl (g0 (ji 0) fun h6=>gq (.nsq (.seq (rg (g1 3 (.agg [eL x1.a]) (rf (.ref (.bx 3) 0 [] (.agg [eL x1.a]))) fun h7=>gm h1 fun h8=>gm h2 fun h9=>?_)))))
 obtain ⟨q4,Eq4,h⟩:=zc h
 refine gv (ji q4) (Y9 rfl h9 Eq4) fun h10=>g2 8 10 (ji (ior .i64 x2 q4)) h8 h10 fun h11=>?_
 obtain ⟨r5,Er5,h⟩:=zc h
 refine gcF [Enc.enc (x1:(S1 LI)),Enc.enc (ior .i64 x2 q4:Int)] (zf h7 rfl (Enc.erase_enc (x1:(S1 LI))) (zf h11 rfl rfl zC)) (H.c66 _ _ _ Er5) H.g66 (g1 12 (.int .u64 (IntKind.u64.wrap r5)) (rf (ji r5)) fun h13=>?_)
 obtain ⟨r6,Er6,h⟩:=zc h
 refine gcF [Enc.enc ((Kd.mk (IntKind.u64.wrap r5):Kd .u64):(Kd .u64))] (zf h13 rfl rfl zC) (H.c36 _ _ Er6) H.g36 (gm (rf (ji r6)) fun h6=>gq (.nsq (.ret ?_)))
 obtain rfl:=oi h
 exact rrA (zm h6) rfl
end
def e45 (F:Nat):Ent:=ent 45 (fun (x:((S1 LI)×Int×Int×Unit))=>xE F x.1 x.2.1 x.2.2.1) (fun (r:Int)=>(Enc.enc (r:Int))) 0 false []
abbrev C45 (D:List V→Option V) (F:Nat):Prop:=∀ (x0:(S1 LI)) (x1:Int) (x2:Int) r,xE F x0 x1 x2=some r→D [Enc.enc x0,Enc.enc x1,Enc.enc x2]=some (Enc.enc (r:Int))
theorem p45 {F:Nat}:C45 (e45 F).den F:=fun x0 x1 x2 _ h=>zS (x0,x1,x2,()) h
theorem o45 (hF:zG Try.prog D σ) (H:H45 D σ F):(e45 F).Ok Try.prog:=okZ (f:=45) Try.func45 fun ⟨x0,x1,x2,_⟩ y hy=>cR hF Try.func45 c45 (t45 H x0 x1 x2 _ ⟨rfl,rfl,rfl⟩ hy)
def zj7:AC:=(.cond (.t 19) .skip (.exit 0))
def zdc:AC:=(.cond (.t 58) (rr [jm 59 7,jm 60 8,jm 61 11,jv 62 (.idx (.t 59) (.t 60) 1),jz (.store .s (.t 62) (.t 61))]) .skip)
def zhQ:AC:=(.seq (rr [jm 49 9,jv 50 (.bin .eql (.t 49) (jn 0)),jm 51 50,jg 52 51 false (.mov (.t 11)),jg 53 51 false (.mov (.t 7)),jg 54 51 false (.mov (.t 8)),jg 55 51 false (.idx (.t 53) (.t 54) 1),jg 56 51 false (.load .s (.t 55)),jg 57 51 false (.bin .lss (.t 52) (.t 56)),jv 58 (.pick (.t 51) kt (.t 57))]) zdc)
def zj1:AC:=(.seq (rr [jm 37 2,jm 38 8,jm 39 10,jx 40 (.call (.t 37) [.t 38,.t 39]),jm 41 7,jm 42 8,jm 43 10,jv 44 (.bin .shl (jn 1) (.t 43)),jv 45 (.bin .or (.t 42) (.t 44)),jv 46 (.idx (.t 41) (.t 45) 1),jl 47 46,jv 48 (.mx [.t 40,.t 47]),jm 11 48]) zhQ)
def MC:AC:=(rr [jv 63 (.bin .add (.t 32) (jn 1)),jm 32 63])
def zkR:AC:=(.seq (.block 3 (.seq (rr [jm 34 32,jv 35 (.idx (.t 30) (.t 32) 1),jl 36 35,jm 9 34,jm 10 36]) zj1)) MC)
def zkx:AC:=(.seq (.cond (.t 33) .skip (.exit 2)) zkR)
def XY:AC:=(.seq (rr [jv 33 (.bin .lss (.t 32) (.t 31))]) zkx)
def zjU:AC:=(.block 2 (.loop XY))
def zjY:AC:=(.seq (rr [jv 26 (.load (.ag [.p]) (.t 3)),jx 27 (.call (jf 57) [.t 26]),jm 28 8,jv 29 (.bin .andNot (.t 27) (.t 28)),jx 30 (.call (jf 27) [.t 29]),jk 31 30,jv 32 (.mov (jn 0))]) zjU)
def W8:AC:=(rr [jm 20 8,jv 21 (.bin .sub (.t 20) (jn 1)),jm 8 21])
def zj6:AC:=(.seq (.block 1 (.seq (rr [jm 22 7,jm 23 8,jm 24 1,jv 25 (.idx (.t 22) (.t 23) 1),jz (.store .s (.t 25) (.t 24))]) zjY)) W8)
def Zp:AC:=(.seq (.seq (rr [jm 18 8,jv 19 (.bin .geq (.t 18) (jn 0))]) zj7) zj6)
def Z5:AC:=(.seq (.reg [] [jm 64 7,jm 6 64] [.home 7 6]) .ret)
def zjA:AC:=(.block 0 (.loop Zp))
def zht:AC:=(.seq (.seq (rr [jv 16 (.load (.ag [.p]) (.t 3)),jx 17 (.call (jf 57) [.t 16]),jm 8 17]) zjA) Z5)
def zhl:AC:=(.seq (.reg [.clr [15]] [jv 12 (.load (.ag [.p]) (.t 3)),jx 13 (.call (jf 57) [.t 12]),jv 14 (.bin .add (.t 13) (jn 1)),jx 15 (.mk (.t 14) i0 i0),jm 7 15] [.home 15 7]) zht)
def zk4:AC:=(.seq (.reg [.clr [3]] [jx 3 (.box (.t 0)),jv 6 (.mov (.k (.sl .nl .s 0 [])))] []) zhl)
def znv:List An:=[⟨0,[.clr [3]],[],[],[]⟩,⟨1,[.clr [15]],[],[],[.home 15 7]⟩,⟨13,[],[],[],[.home 7 6]⟩]
theorem c61s1:cq Try.prog Try.f61 znv=some zk4:=by kernel_rfl
structure N3 (D:Den) (σ:Sig) (F:Nat):Prop where
 c57:C57 (D 57) F
 g57:σ 57=some (0,false)
 c27:C27 (D 27) F
 g27:σ 27=some (0,false)
 c45:C45 (D 45) F
 g45:σ 45=some (0,false)
abbrev JT (r:LI):(Nat→V)→Prop:=RR Try.prog [.tmp 6] 0 false (eL r)
section
variable {r:LI}
def yG (F:Nat) (x2:Int) (x3:(Cl 45 ((S1 LI)×Unit) Unit)) (x1:(S1 LI)) (x43:Int) (r81:LI) (x93:Int) (c1:LI→Int→Option LI) (c4:LI→Int→Option LI) (x111:LI):Option LI:=
 c4 x111 (w64 (x93 + 1))
theorem Nl (H:N3 D σ F) (x2:Int) (x3:(Cl 45 ((S1 LI)×Unit) Unit)) (x1:(S1 LI)) (x43:Int) (r81:LI) (x93:Int) (c1:LI→Int→Option LI) (Hc1:∀ (x42:LI) (x43:Int) (s:Nat→V),zr [(1,ji x2),(2,.fn 45 [.agg [eL x3.fs.1.a]] []),(3,.ref (.bx 3) 0 [] (.agg [eL x1.a])),(6,nI),(7,oI 7 [] (.of x42)),(8,ji x43)] s→c1 x42 x43=some r→Run D σ (JT r) (.run Zp [.lp Zp,.bk 0,.sq Z5]) s) (c4:LI→Int→Option LI) (Hc4:∀ (x92:LI) (x93:Int) (s:Nat→V),zr [(1,ji x2),(2,.fn 45 [.agg [eL x3.fs.1.a]] []),(3,.ref (.bx 3) 0 [] (.agg [eL x1.a])),(6,nI),(7,oI 7 [] (.of x92)),(8,ji x43),(30,eL r81),(31,ji (r81.length:Int)),(32,ji x93)] s→c4 x92 x93=some r→Run D σ (JT r) (.run XY [.lp XY,.bk 2,.bk 1,.sq W8,.lp Zp,.bk 0,.sq Z5]) s) (x111:LI) (s:Nat→V) (hs:zr [(1,ji x2),(2,.fn 45 [.agg [eL x3.fs.1.a]] []),(3,.ref (.bx 3) 0 [] (.agg [eL x1.a])),(6,nI),(7,oI 7 [] (.of x111)),(8,ji x43),(30,eL r81),(31,ji (r81.length:Int)),(32,ji x93)] s) (h:yG F x2 x3 x1 x43 r81 x93 c1 c4 x111=some r):Run D σ (JT r) (.nrm [.bk 3,.sq MC,.lp XY,.bk 2,.bk 1,.sq W8,.lp Zp,.bk 0,.sq Z5]) s:=by
 unfold yG at h
 obtain ⟨h1,h2,h3,h6,h7,h8,h30,h31,h32⟩:=hs
 refine .nbk (.nsq (rg (g1 32 (ji (w64 (x93 + 1))) h32 fun h63=>gm h63 fun h32=>gq (.nlp ?_))))
 exact Hc4 x111 (w64 (x93 + 1)) _ ⟨h1,h2,h3,h6,h7,h8,h30,h31,h32⟩ h
def yH (F:Nat) (x2:Int) (x3:(Cl 45 ((S1 LI)×Unit) Unit)) (x1:(S1 LI)) (x92:LI) (x43:Int) (v107:Int) (r105:Int) (r81:LI) (x93:Int) (c1:LI→Int→Option LI) (c4:LI→Int→Option LI) (x109:Bool):Option LI:=
 bif x109 then
  (idx x92 x43).bind fun v112=>
  yG F x2 x3 x1 x43 r81 x93 c1 c4 (x92.set x43.toNat (if v107 > r105 then v107 else r105))
 else
  yG F x2 x3 x1 x43 r81 x93 c1 c4 x92
theorem No (H:N3 D σ F) (x2:Int) (x3:(Cl 45 ((S1 LI)×Unit) Unit)) (x1:(S1 LI)) (x92:LI) (x43:Int) (v107:Int) (r105:Int) (r81:LI) (x93:Int) (c1:LI→Int→Option LI) (Hc1:∀ (x42:LI) (x43:Int) (s:Nat→V),zr [(1,ji x2),(2,.fn 45 [.agg [eL x3.fs.1.a]] []),(3,.ref (.bx 3) 0 [] (.agg [eL x1.a])),(6,nI),(7,oI 7 [] (.of x42)),(8,ji x43)] s→c1 x42 x43=some r→Run D σ (JT r) (.run Zp [.lp Zp,.bk 0,.sq Z5]) s) (c4:LI→Int→Option LI) (Hc4:∀ (x92:LI) (x93:Int) (s:Nat→V),zr [(1,ji x2),(2,.fn 45 [.agg [eL x3.fs.1.a]] []),(3,.ref (.bx 3) 0 [] (.agg [eL x1.a])),(6,nI),(7,oI 7 [] (.of x92)),(8,ji x43),(30,eL r81),(31,ji (r81.length:Int)),(32,ji x93)] s→c4 x92 x93=some r→Run D σ (JT r) (.run XY [.lp XY,.bk 2,.bk 1,.sq W8,.lp Zp,.bk 0,.sq Z5]) s) (x109:Bool) (s:Nat→V) (hs:zr [(1,ji x2),(2,.fn 45 [.agg [eL x3.fs.1.a]] []),(3,.ref (.bx 3) 0 [] (.agg [eL x1.a])),(6,nI),(7,oI 7 [] (.of x92)),(8,ji x43),(11,ji (if v107 > r105 then v107 else r105)),(30,eL r81),(31,ji (r81.length:Int)),(32,ji x93),(58,jb x109)] s) (h:yH F x2 x3 x1 x92 x43 v107 r105 r81 x93 c1 c4 x109=some r):Run D σ (JT r) (.nrm [.sq zdc,.bk 3,.sq MC,.lp XY,.bk 2,.bk 1,.sq W8,.lp Zp,.bk 0,.sq Z5]) s:=by
 unfold yH at h
 obtain ⟨h1,h2,h3,h6,h7,h8,h11,h30,h31,h32,h58⟩:=hs
 refine .nsq (zn h58 h (fun h=>?_) (fun h=>?_))
 · refine rg (gm h7 fun h59=>gm h8 fun h60=>gm h11 fun h61=>?_)
   obtain ⟨v112,Ev112,h⟩:=zc h
   refine gv (.ref (.at 7 []) x43.toNat [] (ji v112)) (Yg (o:=.of x92) h59 h60 Ev112 rfl) fun h62=>z5 (ji (if v107 > r105 then v107 else r105)) (zB h62 rfl) (zB h61 rfl) (xo (by first | rfl | simp [V.toks,V.tokss,Enc.toks_enc,zY])) ?_
   refine gz [(1,ji x2),(2,.fn 45 [.agg [eL x3.fs.1.a]] []),(3,.ref (.bx 3) 0 [] (.agg [eL x1.a])),(6,nI),(7,_),(8,ji x43),(30,eL r81),(31,ji (r81.length:Int)),(32,ji x93)] ⟨zd h1 rfl,zd h2 (ziW (zF (yJ (zF uE rfl)) rfl) rfl),zd h3 (zH rfl rfl (yJ (zF uE rfl))),zd h6 rfl,zd h7 Kz,zd h8 rfl,zd h30 uE,zd h31 rfl,zd h32 rfl⟩ ?_
   rintro s ⟨h1,h2,h3,h6,h7,h8,h30,h31,h32⟩
   exact Nl H x2 x3 x1 x43 r81 x93 c1 Hc1 c4 Hc4 (x92.set x43.toNat (if v107 > r105 then v107 else r105)) _ ⟨h1,h2,h3,h6,h7,h8,h30,h31,h32⟩ h
 refine .skip ?_
 exact Nl H x2 x3 x1 x43 r81 x93 c1 Hc1 c4 Hc4 x92 _ ⟨h1,h2,h3,h6,h7,h8,h30,h31,h32⟩ h
def zR (F:Nat) (x2:Int) (x3:(Cl 45 ((S1 LI)×Unit) Unit)) (x1:(S1 LI)) (x43:Int) (r81:LI) (c1:LI→Int→Option LI):Nat→LI→Int→Option LI
 | 0,_,_=>none
 | k + 1,x92,x93=>
   bif decide (x93 < (r81.length:Int)) then
    (idx r81 x93).bind fun v104=>
    (xE F x3.fs.1 x43 v104).bind fun r105=>
    (Wc .i64 1 v104).bind fun q106=>
    (idx x92 (ior .i64 x43 q106)).bind fun v107=>
    bif (x93 == 0) then
     yH F x2 x3 x1 x92 x43 v107 r105 r81 x93 c1 (zR F x2 x3 x1 x43 r81 c1 k) true
    else
     (idx x92 x43).bind fun v113=>
     yH F x2 x3 x1 x92 x43 v107 r105 r81 x93 c1 (zR F x2 x3 x1 x43 r81 c1 k) (decide ((if v107 > r105 then v107 else r105) < v113))
   else
    c1 x92 (w64 (x43 - 1))
theorem zdR (H:N3 D σ F) (x2:Int) (x3:(Cl 45 ((S1 LI)×Unit) Unit)) (x1:(S1 LI)) (x43:Int) (r81:LI) (c1:LI→Int→Option LI) (Hc1:∀ (x42:LI) (x43:Int) (s:Nat→V),zr [(1,ji x2),(2,.fn 45 [.agg [eL x3.fs.1.a]] []),(3,.ref (.bx 3) 0 [] (.agg [eL x1.a])),(6,nI),(7,oI 7 [] (.of x42)),(8,ji x43)] s→c1 x42 x43=some r→Run D σ (JT r) (.run Zp [.lp Zp,.bk 0,.sq Z5]) s):∀ (k:Nat) (x92:LI) (x93:Int) (s:Nat→V),zr [(1,ji x2),(2,.fn 45 [.agg [eL x3.fs.1.a]] []),(3,.ref (.bx 3) 0 [] (.agg [eL x1.a])),(6,nI),(7,oI 7 [] (.of x92)),(8,ji x43),(30,eL r81),(31,ji (r81.length:Int)),(32,ji x93)] s→zR F x2 x3 x1 x43 r81 c1 k x92 x93=some r→Run D σ (JT r) (.run XY [.lp XY,.bk 2,.bk 1,.sq W8,.lp Zp,.bk 0,.sq Z5]) s:=by
 intro k
 induction k with
 | zero=>intro x92 x93 s _ h;exact nm h
 | succ k ih=>
   intro x92 x93 s hs h
   rw [zR] at h
   obtain ⟨h1,h2,h3,h6,h7,h8,h30,h31,h32⟩:=hs
   refine .seq (rg (g2 32 31 (jb (decide (x93 < (r81.length:Int)))) h32 h31 fun h33=>gq (.nsq (.seq (zn h33 h (fun h=>?_) (fun h=>?_))))))
   · refine .skip (.nsq (.seq (.block (.seq (rg (gm h32 fun h34=>?_))))))
     obtain ⟨v104,Ev104,h⟩:=zc h
     refine gv (.ref .sh 0 [] (ji v104)) (yg (t:=.sh) (lo:=0) (xs:=r81) h30 h32 Ev104 rfl rfl) fun h35=>g1 35 (ji v104) h35 fun h36=>gm h34 fun h9=>gm h36 fun h10=>gq (.nsq (.seq (rg (gm h2 fun h37=>gm h8 fun h38=>gm h10 fun h39=>?_))))
     obtain ⟨r105,Er105,h⟩:=zc h
     refine zj0 (m:=0) (al:=false) (r:=Enc.enc (r105:Int)) (fs:=[.agg [eL x3.fs.1.a]]) (env:=[]) (us:=[Enc.enc (x3.fs.1:(S1 LI))]) (ws:=[]) h37 (WR (Enc.erase_enc (x3.fs.1:(S1 LI))) Wu) Wu rfl [Enc.enc (x43:Int),Enc.enc (v104:Int)] (zf h38 rfl rfl (zf h39 rfl rfl zC)) (H.c45 _ _ _ _ Er105) H.g45 rfl rfl rfl rfl (gm h7 fun h41=>gm h8 fun h42=>gm h10 fun h43=>?_)
     obtain ⟨q106,Eq106,h⟩:=zc h
     refine gv (ji q106) (Y9 rfl h43 Eq106) fun h44=>g2 42 44 (ji (ior .i64 x43 q106)) h42 h44 fun h45=>?_
     obtain ⟨v107,Ev107,h⟩:=zc h
     refine gv (.ref (.at 7 []) ((ior .i64 x43 q106).toNat) [] (ji v107)) (Yg (o:=.of x92) h41 h45 Ev107 rfl) fun h46=>g1 46 (ji v107) h46 fun h47=>g2 40 47 (ji (if v107 > r105 then v107 else r105)) (rf (ji r105)) h47 fun h48=>gm h48 fun h11=>gq (.nsq (.seq (rg (gm h9 fun h49=>g1 49 (jb (x93 == 0)) h49 fun h50=>gm h50 fun h51=>zX h (fun hg3 h=>?_) (fun hg3 h=>?_)))))
     · iterate 6 refine yq (ct h51 hg3) ?_
       refine g2 51 57 (jb true) (ct h51 hg3) (rf (.tup [])) fun h58=>gz [(1,_),(2,_),(3,_),(6,_),(7,_),(8,_),(11,_),(30,_),(31,_),(32,_),(58,_)] ⟨h1,h2,h3,h6,h7,h8,h11,h30,h31,h32,h58⟩ ?_
       rintro s ⟨h1,h2,h3,h6,h7,h8,h11,h30,h31,h32,h58⟩
       exact No H x2 x3 x1 x92 x43 v107 r105 r81 x93 c1 Hc1 (zR F x2 x3 x1 x43 r81 c1 k) ih true _ ⟨h1,h2,h3,h6,h7,h8,h11,h30,h31,h32,h58⟩ h
     refine zp (ct h51 hg3) (gm h11 fun h52=>zp (ct h51 hg3) (gm h7 fun h53=>zp (ct h51 hg3) (gm h8 fun h54=>?_)))
     obtain ⟨v113,Ev113,h⟩:=zc h
     refine zp (ct h51 hg3) (gv (.ref (.at 7 []) x43.toNat [] (ji v113)) (Yg (o:=.of x92) h53 h54 Ev113 rfl) fun h55=>zp (ct h51 hg3) (g1 55 (ji v113) h55 fun h56=>zp (ct h51 hg3) (g2 52 56 (jb (decide ((if v107 > r105 then v107 else r105) < v113))) h52 h56 fun h57=>g2 51 57 (jb (decide ((if v107 > r105 then v107 else r105) < v113))) (ct h51 hg3) h57 fun h58=>gz [(1,_),(2,_),(3,_),(6,_),(7,_),(8,_),(11,_),(30,_),(31,_),(32,_),(58,_)] ⟨h1,h2,h3,h6,h7,h8,h11,h30,h31,h32,h58⟩ ?_)))
     rintro s ⟨h1,h2,h3,h6,h7,h8,h11,h30,h31,h32,h58⟩
     exact No H x2 x3 x1 x92 x43 v107 r105 r81 x93 c1 Hc1 (zR F x2 x3 x1 x43 r81 c1 k) ih (decide ((if v107 > r105 then v107 else r105) < v113)) _ ⟨h1,h2,h3,h6,h7,h8,h11,h30,h31,h32,h58⟩ h
   refine .exit (.esq (.elp (.ebk (.nbk (.nsq (rg (gm h8 fun h20=>g1 20 (ji (w64 (x43 - 1))) h20 fun h21=>gm h21 fun h8=>gq (.nlp ?_))))))))
   exact Hc1 x92 (w64 (x43 - 1)) _ ⟨h1,h2,h3,h6,h7,h8⟩ h
def zN (F:Nat) (x2:Int) (x3:(Cl 45 ((S1 LI)×Unit) Unit)) (x1:(S1 LI)) :Nat→LI→Int→Option LI
 | 0,_,_=>none
 | k + 1,x42,x43=>
   bif decide (x43≥0) then
    (idx x42 x43).bind fun v79=>
    (uI F x1).bind fun r80=>
    (Y2 F (yS .i64 r80 x43)).bind fun r81=>
    zR F x2 x3 x1 x43 r81 (zN F x2 x3 x1 k) F (x42.set x43.toNat x2) 0
   else
    some x42
theorem zdO (H:N3 D σ F) (x2:Int) (x3:(Cl 45 ((S1 LI)×Unit) Unit)) (x1:(S1 LI)) :∀ (k:Nat) (x42:LI) (x43:Int) (s:Nat→V),zr [(1,ji x2),(2,.fn 45 [.agg [eL x3.fs.1.a]] []),(3,.ref (.bx 3) 0 [] (.agg [eL x1.a])),(6,nI),(7,oI 7 [] (.of x42)),(8,ji x43)] s→zN F x2 x3 x1 k x42 x43=some r→Run D σ (JT r) (.run Zp [.lp Zp,.bk 0,.sq Z5]) s:=by
 intro k
 induction k with
 | zero=>intro x42 x43 s _ h;exact nm h
 | succ k ih=>
   intro x42 x43 s hs h
   rw [zN] at h
   obtain ⟨h1,h2,h3,h6,h7,h8⟩:=hs
   refine .seq (.seq (rg (gm h8 fun h18=>g1 18 (jb (decide (x43≥0))) h18 fun h19=>gq (.nsq (zn h19 h (fun h=>?_) (fun h=>?_))))))
   · refine .skip (.nsq (.seq (.block (.seq (rg (gm h7 fun h22=>gm h8 fun h23=>gm h1 fun h24=>?_))))))
     obtain ⟨v79,Ev79,h⟩:=zc h
     refine gv (.ref (.at 7 []) x43.toNat [] (ji v79)) (Yg (o:=.of x42) h22 h23 Ev79 rfl) fun h25=>z5 (ji x2) (zB h25 rfl) (zB h24 rfl) (xo (by first | rfl | simp [V.toks,V.tokss,Enc.toks_enc,zY])) (gz [(1,ji x2),(2,.fn 45 [.agg [eL x3.fs.1.a]] []),(3,.ref (.bx 3) 0 [] (.agg [eL x1.a])),(6,nI),(7,_),(8,ji x43)] ⟨zd h1 rfl,zd h2 (ziW (zF (yJ (zF uE rfl)) rfl) rfl),zd h3 (zH rfl rfl (yJ (zF uE rfl))),zd h6 rfl,zd h7 Kz,zd h8 rfl⟩ ?_)
     rintro s ⟨h1,h2,h3,h6,h7,h8⟩
     refine .nsq (.seq (rg (g1 3 (.agg [eL x1.a]) h3 fun h26=>?_)))
     obtain ⟨r80,Er80,h⟩:=zc h
     refine gcF [Enc.enc (x1:(S1 LI))] (zf h26 rfl (Enc.erase_enc (x1:(S1 LI))) zC) (H.c57 _ _ Er80) H.g57 (gm h8 fun h28=>g2 27 28 (ji (yS .i64 r80 x43)) (rf (ji r80)) h28 fun h29=>?_)
     obtain ⟨r81,Er81,h⟩:=zc h
     refine gcF [Enc.enc (yS .i64 r80 x43:Int)] (zf h29 rfl rfl zC) (H.c27 _ _ Er81) H.g27 (gl r81 rfl fun h31=>g0 (ji 0) fun h32=>gq (.nsq (.block (.loop ?_))))
     exact zdR H x2 x3 x1 x43 r81 (zN F x2 x3 x1 k) ih F (x42.set x43.toNat x2) 0 _ ⟨h1,h2,h3,h6,h7,h8,rfl,h31,h32⟩ h
   refine .exit (.esq (.elp (.ebk (.nsq (.seq (rg (gm h7 fun h64=>gm h64 fun h6=>yK (yo (r:=7) (x:=6) (v:=_) h6 rfl (fun s4 hz4=>?_)))))))))
   refine ez [(6,oI 6 [] (.of x42))] (hz4 6 _ _ h6 (zl (r:=7) (p:=[]) rfl rfl)) ?_
   rintro s h6
   refine .nsq (.ret ?_)
   obtain rfl:=oi h
   exact rrA (zm h6) (vC (wj (o:=.of x42)) (vB rfl))
def ym (F:Nat) (x1:(S1 LI)) (x2:Int) (x3:(Cl 45 ((S1 LI)×Unit) Unit)):Option LI:=
 (uI F x1).bind fun r4=>
 (mkN (w64 (r4 + 1)) (0:Int)).bind fun mk5=>
 (uI F x1).bind fun r6=>
 zN F x2 x3 x1 F mk5 r6
theorem zt7 (H:N3 D σ F) (x1:(S1 LI)) (x2:Int) (x3:(Cl 45 ((S1 LI)×Unit) Unit)) (s:Nat→V) (hs:zr [(0,.agg [eL x1.a]),(1,ji x2),(2,.fn 45 [.agg [eL x3.fs.1.a]] [])] s) (h:ym F x1 x2 x3=some r):Run D σ (JT r) (.run zk4 []) s:=by
 unfold ym at h
 obtain ⟨h0,h1,h2⟩:=hs
 refine .seq (zw (zW ?_))
 refine ez [(0,_),(1,_),(2,_),(3,_)] ⟨za h0 rfl (zM (zg me zx)),za h1 rfl mi,za h2 rfl (zdg (zg (zM (zg me zx)) zx) zx),ze rfl⟩ ?_
 rintro s ⟨h0,h1,h2,h3⟩
 refine xn (.agg [eL x1.a]) (zB h0 rfl) h3 rfl (g0 nI fun h6=>gq (.nsq (.seq (zw (zW ?_)))))
 refine ez [(1,_),(2,_),(3,_),(6,_),(15,_)] ⟨za h1 rfl mi,za h2 rfl (zdg (zg (zM (zg me zx)) zx) zx),za rfl rfl (zj rfl (zM (zg me zx))),za h6 rfl rfl,ze rfl⟩ ?_
 rintro s ⟨h1,h2,h3,h6,h15⟩
 refine g1 3 (.agg [eL x1.a]) h3 fun h12=>?_
 obtain ⟨r4,Er4,h⟩:=zc h
 refine gcF [Enc.enc (x1:(S1 LI))] (zf h12 rfl (Enc.erase_enc (x1:(S1 LI))) zC) (H.c57 _ _ Er4) H.g57 (g1 13 (ji (w64 (r4 + 1))) (rf (ji r4)) fun h14=>?_)
 obtain ⟨mk5,Emk5,h⟩:=zc h
 refine znc (0:Int) h14 rfl h15 Emk5 (gm (rf (oI 15 [] (.of mk5))) fun h7=>yK (yo (r:=15) (x:=7) (v:=_) h7 rfl (fun s3 hz3=>?_)))
 refine ez [(1,ji x2),(2,.fn 45 [.agg [eL x3.fs.1.a]] []),(3,.ref (.bx 3) 0 [] (.agg [eL x1.a])),(6,nI),(7,oI 7 [] (.of mk5))] ⟨hz3 1 _ _ h1 mi,hz3 2 _ _ h2 (zdg (zg (zM (zg me zx)) zx) zx),hz3 3 _ _ h3 (zj rfl (zM (zg me zx))),hz3 6 _ _ h6 rfl,hz3 7 _ _ h7 (zl (r:=15) (p:=[]) rfl rfl)⟩ ?_
 rintro s ⟨h1,h2,h3,h6,h7⟩
 refine .nsq (.seq (.seq (rg (g1 3 (.agg [eL x1.a]) h3 fun h16=>?_))))
 obtain ⟨r6,Er6,h⟩:=zc h
 refine gcF [Enc.enc (x1:(S1 LI))] (zf h16 rfl (Enc.erase_enc (x1:(S1 LI))) zC) (H.c57 _ _ Er6) H.g57 (gm (rf (ji r6)) fun h8=>gq (.nsq (.block (.loop ?_))))
 exact zdO H x2 x3 x1 F mk5 r6 _ ⟨h1,h2,h3,h6,h7,h8⟩ h
end
def zhB (F:Nat):Ent:=ent 61 (fun (x:((S1 LI)×Int×(Cl 45 ((S1 LI)×Unit) Unit)×Unit))=>ym F x.1 x.2.1 x.2.2.1) (fun (r:LI)=>(eL r)) 0 false [(2,45)]
abbrev zlO (D:List V→Option V) (F:Nat):Prop:=∀ (x0:(S1 LI)) (x1:Int) (x2:(Cl 45 ((S1 LI)×Unit) Unit)) r,ym F x0 x1 x2=some r→D [Enc.enc x0,Enc.enc x1,Arg.arg x2]=some (eL r)
theorem zqS {F:Nat}:zlO (zhB F).den F:=fun x0 x1 x2 _ h=>zS (x0,x1,x2,()) h
theorem zoL (hF:zG Try.prog D σ) (H:N3 D σ F):(zhB F).Ok Try.prog:=okZ (f:=61) Try.func61 fun ⟨x0,x1,x2,_⟩ y hy=>cR hF Try.func61 c61s1 (zt7 H x0 x1 x2 _ ⟨rfl,rfl,rfl⟩ hy)
def zre:AC:=(.seq (rr [jv 3 (.load (.ag [.p]) (.t 1)),jv 4 (.load (.ag [.p]) (.t 1)),jv 5 (.fn 45 [.t 4] []),jx 6 (.call (jf 61) [.t 3,jn 0,.t 5]),jv 7 (.idx (.t 6) (jn 0) 1),jl 8 7,jm 2 8]) .ret)
def A39:AC:=(.seq (.reg [.clr [1]] [jx 1 (.box (.t 0)),jv 2 (.mov (jn 0))] []) zre)
def zwd:List An:=[⟨0,[.clr [1]],[],[],[]⟩]
theorem c39:cq Try.prog Try.f39 zwd=some A39:=by kernel_rfl
structure H39 (D:Den) (σ:Sig) (F:Nat):Prop where
 c61s1:zlO (D 61) F
 g61s1:σ 61=some (0,false)
abbrev R39 (r:Int):(Nat→V)→Prop:=RR Try.prog [.tmp 2] 0 false (Enc.enc (r:Int))
section
variable {r:Int}
def vW (F:Nat) (x1:(S1 LI)):Option Int:=
 (ym F x1 0 (Cl.mk (x1,()) ():(Cl 45 ((S1 LI)×Unit) Unit))).bind fun r2=>
 (idx r2 0).bind fun v3=>
 some v3
theorem t39 (H:H39 D σ F) (x1:(S1 LI)) (s:Nat→V) (hs:zr [(0,.agg [eL x1.a])] s) (h:vW F x1=some r):Run D σ (R39 r) (.run A39 []) s:=by
 unfold vW at h
 have h0:=hs
 refine .seq (zw (zW ?_))
 refine ez [(0,_),(1,_)] ⟨za h0 rfl (zM (zg me zx)),ze rfl⟩ ?_
 rintro s ⟨h0,h1⟩
 refine xn (.agg [eL x1.a]) (zB h0 rfl) h1 rfl (g0 (ji 0) fun h2=>gq (.nsq (.seq (rg (g1 1 (.agg [eL x1.a]) (rf (.ref (.bx 1) 0 [] (.agg [eL x1.a]))) fun h3=>g1 1 (.agg [eL x1.a]) (rf (.ref (.bx 1) 0 [] (.agg [eL x1.a]))) fun h4=>g1 4 (.fn 45 [.agg [eL x1.a]] []) h4 fun h5=>?_)))))
 obtain ⟨r2,Er2,h⟩:=zc h
 refine gcF [Enc.enc (x1:(S1 LI)),Enc.enc (0:Int),Arg.arg ((Cl.mk (x1,()) ():(Cl 45 ((S1 LI)×Unit) Unit)):(Cl 45 ((S1 LI)×Unit) Unit))] (zf h3 rfl (Enc.erase_enc (x1:(S1 LI))) (zf (v:=ji 0) rfl rfl rfl (zf h5 rfl (zi2 (WR (Enc.erase_enc (x1:(S1 LI))) Wu) Wu) zC))) (H.c61s1 _ _ _ _ Er2) H.g61s1 ?_
 obtain ⟨v3,Ev3,h⟩:=zc h
 refine gv (.ref .sh 0 [] (ji v3)) (yg (t:=.sh) (lo:=0) (xs:=r2) rfl rfl Ev3 rfl rfl) fun h7=>g1 7 (ji v3) h7 fun h8=>gm h8 fun h2=>gq (.nsq (.ret ?_))
 obtain rfl:=oi h
 exact rrA (zm h2) rfl
end
def e39 (F:Nat):Ent:=ent 39 (fun (x:((S1 LI)×Unit))=>vW F x.1) (fun (r:Int)=>(Enc.enc (r:Int))) 0 false []
abbrev C39 (D:List V→Option V) (F:Nat):Prop:=∀ (x0:(S1 LI)) r,vW F x0=some r→D [Enc.enc x0]=some (Enc.enc (r:Int))
theorem p39 {F:Nat}:C39 (e39 F).den F:=fun x0 _ h=>zS (x0,()) h
theorem o39 (hF:zG Try.prog D σ) (H:H39 D σ F):(e39 F).Ok Try.prog:=okZ (f:=39) Try.func39 fun ⟨x0,_⟩ y hy=>cR hF Try.func39 c39 (t39 H x0 _ rfl hy)
def zq8:AC:=(.cond (.t 6) (.seq (rr [jv 2 (.mov (jn 0)),jv 3 (.mov kf)]) .ret) .skip)
def zt2:AC:=(.seq (rr [jv 7 (.load (.ag [.s,.p]) (.t 1)),jx 8 (.call (jf 33) [.t 7]),jx 9 (.call (jf 39) [.t 8]),jm 2 9,jv 3 (.mov kt)]) .ret)
def zoT:AC:=(.seq (.seq (rr [jv 4 (.load (.ag [.s,.p]) (.t 1)),jx 5 (.call (jf 32) [.t 4]),jv 6 (.un .not (.t 5))]) zq8) zt2)
def A18:AC:=(.seq (.reg [.clr [1]] [jx 1 (.box (.t 0)),jv 2 (.mov (jn 0)),jv 3 (.mov kf)] []) zoT)
def zvI:List An:=[⟨0,[.clr [1]],[],[],[]⟩]
theorem c18:cq Try.prog Try.f18 zvI=some A18:=by kernel_rfl
structure H18 (D:Den) (σ:Sig) (F:Nat):Prop where
 c32:C32 (D 32) F
 g32:σ 32=some (0,false)
 c33:C33 (D 33) F
 g33:σ 33=some (0,false)
 c39:C39 (D 39) F
 g39:σ 39=some (0,false)
abbrev R18 (r:(Int×Bool)):(Nat→V)→Prop:=RR Try.prog [.tmp 2,.tmp 3] 0 false (.tup [Enc.enc (r.1:Int),Enc.enc (r.2:Bool)])
section
variable {r:(Int×Bool)}
def vn (F:Nat) (x1:GR):Option (Int×Bool):=
 (vw F x1).bind fun r2=>
 bif (!r2) then
  some (0,false)
 else
  (ZQ F x1).bind fun r3=>
  (vW F r3).bind fun r4=>
  some (r4,true)
theorem t18 (H:H18 D σ F) (x1:GR) (s:Nat→V) (hs:zr [(0,gV x1)] s) (h:vn F x1=some r):Run D σ (R18 r) (.run A18 []) s:=by
 unfold vn at h
 have h0:=hs
 refine .seq (zw (zW ?_))
 refine ez [(0,_),(1,_)] ⟨za h0 rfl mIE,ze rfl⟩ ?_
 rintro s ⟨h0,h1⟩
 refine xn (gV x1) (zB h0 rfl) h1 rfl (g0 (ji 0) fun h2=>g0 (jb false) fun h3=>gq (.nsq (.seq (.seq (rg (g1 1 (gV x1) (rf (bG 1 x1)) fun h4=>?_))))))
 obtain ⟨r2,Er2,h⟩:=zc h
 refine gcF [Enc.enc (x1:GR)] (zf h4 rfl (Enc.erase_enc (x1:GR)) zC) (H.c32 _ _ Er2) H.g32 (g1 5 (jb (!r2)) (rf (jb r2)) fun h6=>gq (.nsq (zn h6 h (fun h=>?_) (fun h=>?_))))
 · refine .seq (rg (g0 (ji 0) fun h2=>g0 (jb false) fun h3=>gq (.nsq (.ret ?_))))
   obtain rfl:=oi h
   exact rrB (zm h2) (zm h3) rfl
 refine .skip (.nsq (.seq (rg (g1 1 (gV x1) (rf (bG 1 x1)) fun h7=>?_))))
 obtain ⟨r3,Er3,h⟩:=zc h
 refine gcF [Enc.enc (x1:GR)] (zf h7 rfl (Enc.erase_enc (x1:GR)) zC) (H.c33 _ _ Er3) H.g33 ?_
 obtain ⟨r4,Er4,h⟩:=zc h
 refine gcF [Enc.enc (r3:(S1 LI))] (zf (v:=.agg [eL r3.a]) rfl rfl (Enc.erase_enc (r3:(S1 LI))) zC) (H.c39 _ _ Er4) H.g39 (gm (rf (ji r4)) fun h2=>g0 (jb true) fun h3=>gq (.nsq (.ret ?_)))
 obtain rfl:=oi h
 exact rrB (zm h2) (zm h3) rfl
end
def e18 (F:Nat):Ent:=ent 18 (fun (x:(GR×Unit))=>vn F x.1) (fun (r:(Int×Bool))=>(.tup [Enc.enc (r.1:Int),Enc.enc (r.2:Bool)])) 0 false []
abbrev C18 (D:List V→Option V) (F:Nat):Prop:=∀ (x0:GR) r,vn F x0=some r→D [Enc.enc x0]=some (.tup [Enc.enc (r.1:Int),Enc.enc (r.2:Bool)])
theorem p18 {F:Nat}:C18 (e18 F).den F:=fun x0 _ h=>zS (x0,()) h
theorem o18 (hF:zG Try.prog D σ) (H:H18 D σ F):(e18 F).Ok Try.prog:=okZ (f:=18) Try.func18 fun ⟨x0,_⟩ y hy=>cR hF Try.func18 c18 (t18 H x0 _ rfl hy)
def zrl:AC:=(.seq (rr [jx 11 (.vN (.load (.ag [.s,.p]) (.t 5)) [4]),jm 12 4,jx 13 (.vN (.load (.ag [.s,.p]) (.t 5)) [4]),jx 14 (.callT (jf 47) [.t 12,.t 13] [4] []),jz (.store (.ag [.s,.p]) (.t 2) (.t 11)),jm 3 14]) .ret)
def zsJ:AC:=(.seq (.reg [.clr [5]] [jm 9 4,jx 10 (.callT (jf 46) [.t 9] [4] []),jx 5 (.alloc (.agg [i0,.sl .nl (.ag [.s,.s]) 0 []])),jz (.store (.ag [.s,.p]) (.t 5) (.t 10))] []) zrl)
def zpc:AC:=(.seq (.reg [.clr [8]] [jm 6 0,jv 7 (.bld (.agg [.sl .nl .s 0 [],i0,.int .u64 (.ofNat 0)]) [(0,0,.t 6)]),jx 8 (.box (.t 7)),jm 4 8] []) zsJ)
def A40:AC:=(.seq (.reg [.clr [2]] [jx 2 (.alloc (.agg [i0,.sl .nl (.ag [.s,.s]) 0 []])),jv 3 (.mov (.k (.sl .nl .s 0 [])))] []) zpc)
def zuK:List An:=[⟨0,[.clr [2]],[],[],[]⟩,⟨1,[.clr [8]],[],[],[]⟩,⟨2,[.clr [5]],[],[2000004],[]⟩,⟨3,[],[],[4000004,1000004,3000004],[]⟩]
theorem c40:cq Try.prog Try.f40 zuK=some A40:=by kernel_rfl
structure H40 (D:Den) (σ:Sig) (F:Nat):Prop where
 c46:C46 (D 46) F
 g46:σ 46=some (uK,false)
 c47:C47 (D 47) F
 g47:σ 47=some (uK,false)
abbrev R40 (r:(GR×LI)):(Nat→V)→Prop:=RR Try.prog [.cell 2 26,.tmp 3] 0 true (.tup [Enc.enc (r.1:GR),eL r.2])
section
variable {r:(GR×LI)}
def vH (F:Nat) (x1:LB):Option (GR×LI):=
 (wc F (cu x1 0 0)).bind fun r2=>
 (wN F (Cu.mk r2.2) r2.1).bind fun r3=>
 some (r2.1,r3.1)
theorem t40 (H:H40 D σ F) (x1:LB) (s:Nat→V) (hs:zr [(0,eB x1)] s) (h:vH F x1=some r):Run D σ (R40 r) (.run A40 []) s:=by
 unfold vH at h
 have h0:=hs
 refine .seq (zw (zW ?_))
 refine ez [(0,_),(2,_)] ⟨za h0 rfl me,ze rfl⟩ ?_
 rintro s ⟨h0,h2⟩
 refine y9 h2 (g0 nI fun h3=>gq (.nsq (.seq (zw (zW ?_)))))
 refine ez [(0,_),(2,_),(3,_),(8,_)] ⟨za h0 rfl me,za rfl rfl (zj rfl (mIx rfl)),za h3 rfl rfl,ze rfl⟩ ?_
 rintro s ⟨h0,h2,h3,h8⟩
 refine gm h0 fun h6=>g1 6 (.agg [eB x1,ji 0,.int .u64 0]) h6 fun h7=>xn (.agg [eB x1,ji 0,.int .u64 0]) (zB h7 rfl) h8 rfl (gm (rf (.ref (.bx 8) 0 [] (.agg [eB x1,ji 0,.int .u64 0]))) fun h4=>gq (.nsq (.seq (zw (zW ?_)))))
 refine ez [(2,_),(3,_),(4,_),(5,_)] ⟨za h2 rfl (zj rfl (mIx rfl)),za h3 rfl rfl,za h4 rfl (zj rfl wW),ze rfl⟩ ?_
 rintro s ⟨h2,h3,h4,h5⟩
 refine gm h4 fun h9=>?_
 obtain ⟨r2,Er2,h⟩:=zc h
 refine vf (r:=8) (b:=4) (x:=((S3.mk x1 0 (Kd.mk 0:Kd .u64)):CU)) (x':=r2.2) (vs:=[]) (res:=Enc.enc (r2.1:GR)) h4 (by exact (zJ (v:=cuV 8 ((S3.mk x1 0 (Kd.mk 0:Kd .u64)):CU)) h9 rfl yp)) yk (fun f=>zx) (H.c46 _ _ Er2) H.g46 te rfl (fun s4 hb4 ha4=>y9 (show s4 5 = .gone from ha4 5 _ _ h5 rfl rfl) (z5 (gV r2.1) (zB rfl rfl) (zB rfl rfl) (xo (by first | rfl | simp [V.toks,V.tokss,Enc.toks_enc,zY])) ?_))
 refine gz [(2,bZ 2),(3,nI),(4,.ref (.bx 8) 0 [] (cV r2.2)),(5,bG 5 r2.1)] ⟨zd (show s4 2=(bZ 2) from ha4 2 _ _ h2 rfl (zj rfl (mIx rfl))) (zH rfl rfl (yJ (zF rfl (zF rfl rfl)))),zd (show s4 3=nI from ha4 3 _ _ h3 rfl rfl) rfl,zd (show s4 4=(.ref (.bx 8) 0 [] (cV r2.2)) from hb4 4 h4) (zH rfl rfl WI),zd rfl rfl⟩ ?_
 rintro s ⟨h2,h3,h4,h5⟩
 refine .nsq (.seq (rg (LE (r:=8) (b:=4) (x:=r2.2) (gV r2.1) h4 (Ye [(5,bG 5 r2.1)] h5 rfl rfl) [(5,bG 5 r2.1)] h5 rfl (by simp [V.live,V.lives,vt,V.toks,V.tokss,z8,Enc.toks_enc,zO,uL]) (by simp [V.toks,V.tokss,z8,Enc.toks_enc,zO,uL]) (gm h4 fun h12=>LE (r:=8) (b:=4) (x:=r2.2) (gV r2.1) h4 (Ye [(5,bG 5 r2.1)] h5 rfl rfl) [(5,bG 5 r2.1)] h5 rfl (by simp [V.live,V.lives,vt,V.toks,V.tokss,z8,Enc.toks_enc,zO,uL]) (by simp [V.toks,V.tokss,z8,Enc.toks_enc,zO,uL]) ?_))))
 obtain ⟨r3,Er3,h⟩:=zc h
 refine vf (r:=8) (b:=4) (x:=r2.2) (x':=r3.2) (vs:=[Enc.enc (r2.1:GR)]) (res:=eL r3.1) h4 (by exact (zJ (v:=cuV 8 r2.2) h12 rfl (zJ (v:=Enc.enc (r2.1:GR)) rfl rfl yp))) (yb te yk) fm1 (H.c47 _ _ _ Er3) H.g47 te rfl (fun s5 hb5 ha5=>z5 (gV r2.1) (zB (show s5 2=(bZ 2) from ha5 2 _ _ h2 rfl (zj rfl (mIx rfl))) rfl) (zB (show s5 11=(gV r2.1) from ha5 11 (gV r2.1) _ rfl rfl mIE) rfl) (xo (by first | rfl | simp [V.toks,V.tokss,Enc.toks_enc,zY])) (gm (zd rfl uE) fun h3=>gz [(2,bG 2 r2.1),(3,_)] ⟨zd (show s5 2=(bZ 2) from ha5 2 _ _ h2 rfl (zj rfl (mIx rfl))) rfl,h3⟩ ?_))
 rintro s ⟨h2,h3⟩
 refine .nsq (.ret ?_)
 obtain rfl:=oi h
 exact rrB (xZ h2 (by kernel_rfl)) (zm h3) (xV (w6 (z7 (xd (x:=(r2.1:GR))) (z7 (xd (x:=(r3.1:LI))) xJ))))
end
def e40 (F:Nat):Ent:=ent 40 (fun (x:(LB×Unit))=>vH F x.1) (fun (r:(GR×LI))=>(.tup [Enc.enc (r.1:GR),eL r.2])) 0 true []
abbrev C40 (D:List V→Option V) (F:Nat):Prop:=∀ (x0:LB) r,vH F x0=some r→D [Enc.enc x0]=some (.tup [Enc.enc (r.1:GR),eL r.2])
theorem p40 {F:Nat}:C40 (e40 F).den F:=fun x0 _ h=>zS (x0,()) h
theorem o40 (hF:zG Try.prog D σ) (H:H40 D σ F):(e40 F).Ok Try.prog:=okZ (f:=40) Try.func40 fun ⟨x0,_⟩ y hy=>cR hF Try.func40 c40 (t40 H x0 _ rfl hy)
def zrj:AC:=(.seq (rr [jm 4 0,jx 5 (.call (jf 40) [.t 4]),jv 6 (.ext (.t 5) 0),jv 7 (.ext (.t 5) 1),jz (.store (.ag [.s,.p]) (.t 2) (.t 6)),jm 3 7]) .ret)
def A19:AC:=(.seq (.reg [.clr [2]] [jx 2 (.alloc (.agg [i0,.sl .nl (.ag [.s,.s]) 0 []])),jv 3 (.mov (.k (.sl .nl .s 0 [])))] []) zrj)
def zuv:List An:=[⟨0,[.clr [2]],[],[],[]⟩]
theorem c19:cq Try.prog Try.f19 zuv=some A19:=by kernel_rfl
structure H19 (D:Den) (σ:Sig) (F:Nat):Prop where
 c40:C40 (D 40) F
 g40:σ 40=some (0,true)
abbrev R19 (r:(GR×LI)):(Nat→V)→Prop:=RR Try.prog [.cell 2 26,.tmp 3] 0 true (.tup [Enc.enc (r.1:GR),eL r.2])
section
variable {r:(GR×LI)}
def xM (F:Nat) (x1:LB):Option (GR×LI):=
 (vH F x1).bind fun r2=>
 some (r2.1,r2.2)
theorem t19 (H:H19 D σ F) (x1:LB) (s:Nat→V) (hs:zr [(0,eB x1)] s) (h:xM F x1=some r):Run D σ (R19 r) (.run A19 []) s:=by
 unfold xM at h
 have h0:=hs
 refine .seq (zw (zW ?_))
 refine ez [(0,_),(2,_)] ⟨za h0 rfl me,ze rfl⟩ ?_
 rintro s ⟨h0,h2⟩
 refine y9 h2 (g0 nI fun h3=>gq (.nsq (.seq (rg (gm h0 fun h4=>?_)))))
 obtain ⟨r2,Er2,h⟩:=zc h
 refine xT (m:=0) (al:=true) (r:=.tup [Enc.enc (r2.1:GR),eL r2.2]) [Enc.enc (x1:LB)] (zf h4 rfl (Enc.erase_enc (x1:LB)) zC) (H.c40 _ _ Er2) H.g40 (we (yc (v:=eB x1) h4 rfl rfl wd)) rfl rfl rfl (g1 5 (gV r2.1) (rf (.tup [gV r2.1,eL r2.2])) fun h6=>g1 5 (eL r2.2) (rf (.tup [gV r2.1,eL r2.2])) fun h7=>z5 (gV r2.1) (zB rfl rfl) (zB h6 rfl) (xo (by first | rfl | simp [V.toks,V.tokss,Enc.toks_enc,zY])) (gm (zd h7 uE) fun h3=>gz [(2,bG 2 r2.1),(3,_)] ⟨zd rfl rfl,h3⟩ ?_))
 rintro s ⟨h2,h3⟩
 refine .nsq (.ret ?_)
 obtain rfl:=oi h
 exact rrB (xZ h2 (by kernel_rfl)) (zm h3) (xV (w6 (z7 (xd (x:=(r2.1:GR))) (z7 (xd (x:=(r2.2:LI))) xJ))))
end
def e19 (F:Nat):Ent:=ent 19 (fun (x:(LB×Unit))=>xM F x.1) (fun (r:(GR×LI))=>(.tup [Enc.enc (r.1:GR),eL r.2])) 0 true []
abbrev C19 (D:List V→Option V) (F:Nat):Prop:=∀ (x0:LB) r,xM F x0=some r→D [Enc.enc x0]=some (.tup [Enc.enc (r.1:GR),eL r.2])
theorem p19 {F:Nat}:C19 (e19 F).den F:=fun x0 _ h=>zS (x0,()) h
theorem o19 (hF:zG Try.prog D σ) (H:H19 D σ F):(e19 F).Ok Try.prog:=okZ (f:=19) Try.func19 fun ⟨x0,_⟩ y hy=>cR hF Try.func19 c19 (t19 H x0 _ rfl hy)
def zq2:AC:=(.cond (.t 19) (.seq (rr [jv 6 (.mov kf)]) .ret) .skip)
def zrW:AC:=(.seq (rr [jm 15 8,jm 16 1,jm 17 2,jx 18 (.call (jf 55) [.t 15,.t 16,.t 17]),jv 19 (.un .not (.t 18))]) zq2)
def zpr:AC:=(rr [jv 20 (.bin .add (.t 11) (jn 1)),jm 11 20])
def zpl:AC:=(.seq (.block 1 (.seq (rr [jv 13 (.idx (.t 9) (.t 11) 1),jl 14 13,jm 8 14]) zrW)) zpr)
def zqz:AC:=(.seq (.cond (.t 12) .skip (.exit 0)) zpl)
def zhj:AC:=(.seq (rr [jv 12 (.bin .lss (.t 11) (.t 10))]) zqz)
def zlg:AC:=(.seq (rr [jv 6 (.mov kt)]) .ret)
def zru:AC:=(.block 0 (.loop zhj))
def zqK:AC:=(.seq (.seq (rr [jm 9 0,jk 10 9,jv 11 (.mov (jn 0))]) zru) zlg)
def A62:AC:=(.seq (rr [jv 6 (.mov kf)]) zqK)
def zve:List An:=[]
theorem c62:cq Try.prog Try.f62 zve=some A62:=by kernel_rfl
structure H62 (D:Den) (σ:Sig) (F:Nat):Prop where
 c55:C55 (D 55) F
 g55:σ 55=some (0,false)
abbrev R62 (r:Bool):(Nat→V)→Prop:=RR Try.prog [.tmp 6] 0 false (Enc.enc (r:Bool))
section
variable {r:Bool}
def vD (F:Nat) (x2:Int) (x3:Int) (x1:LI) :Nat→Int→Option Bool
 | 0,_=>none
 | k + 1,x6=>
   bif decide (x6 < (x1.length:Int)) then
    (idx x1 x6).bind fun v9=>
    (Y4 F v9 x2 x3).bind fun r10=>
    bif (!r10) then
     some false
    else
     (vD F x2 x3 x1 k) (w64 (x6 + 1))
   else
    some true
theorem zgV (H:H62 D σ F) (x2:Int) (x3:Int) (x1:LI) :∀ (k:Nat) (x6:Int) (s:Nat→V),zr [(1,ji x2),(2,ji x3),(6,jb false),(9,eL x1),(10,ji (x1.length:Int)),(11,ji x6)] s→vD F x2 x3 x1 k x6=some r→Run D σ (R62 r) (.run zhj [.lp zhj,.bk 0,.sq zlg]) s:=by
 intro k
 induction k with
 | zero=>intro x6 s _ h;exact nm h
 | succ k ih=>
   intro x6 s hs h
   rw [vD] at h
   obtain ⟨h1,h2,h6,h9,h10,h11⟩:=hs
   refine .seq (rg (g2 11 10 (jb (decide (x6 < (x1.length:Int)))) h11 h10 fun h12=>gq (.nsq (.seq (zn h12 h (fun h=>?_) (fun h=>?_))))))
   · refine .skip (.nsq (.seq (.block (.seq (rg ?_)))))
     obtain ⟨v9,Ev9,h⟩:=zc h
     refine gv (.ref .sh 0 [] (ji v9)) (yg (t:=.sh) (lo:=0) (xs:=x1) h9 h11 Ev9 rfl rfl) fun h13=>g1 13 (ji v9) h13 fun h14=>gm h14 fun h8=>gq (.nsq (.seq (rg (gm h8 fun h15=>gm h1 fun h16=>gm h2 fun h17=>?_))))
     obtain ⟨r10,Er10,h⟩:=zc h
     refine gcF [Enc.enc (v9:Int),Enc.enc (x2:Int),Enc.enc (x3:Int)] (zf h15 rfl rfl (zf h16 rfl rfl (zf h17 rfl rfl zC))) (H.c55 _ _ _ _ Er10) H.g55 (g1 18 (jb (!r10)) (rf (jb r10)) fun h19=>gq (.nsq (zn h19 h (fun h=>?_) (fun h=>?_))))
     · refine .seq (rg (g0 (jb false) fun h6=>gq (.nsq (.ret ?_))))
       obtain rfl:=oi h
       exact rrA (zm h6) rfl
     refine .skip (.nbk (.nsq (rg (g1 11 (ji (w64 (x6 + 1))) h11 fun h20=>gm h20 fun h11=>gq (.nlp ?_)))))
     exact ih (w64 (x6 + 1)) _ ⟨h1,h2,h6,h9,h10,h11⟩ h
   refine .exit (.esq (.elp (.ebk (.nsq (.seq (rg (g0 (jb true) fun h6=>gq (.nsq (.ret ?_)))))))))
   obtain rfl:=oi h
   exact rrA (zm h6) rfl
def Zy (F:Nat) (x1:LI) (x2:Int) (x3:Int):Option Bool:=
 vD F x2 x3 x1 F 0
theorem t62 (H:H62 D σ F) (x1:LI) (x2:Int) (x3:Int) (s:Nat→V) (hs:zr [(0,eL x1),(1,ji x2),(2,ji x3)] s) (h:Zy F x1 x2 x3=some r):Run D σ (R62 r) (.run A62 []) s:=by
 unfold Zy at h
 obtain ⟨h0,h1,h2⟩:=hs
 refine .seq (rg (g0 (jb false) fun h6=>gq (.nsq (.seq (.seq (rg (gm h0 fun h9=>gl x1 h9 fun h10=>g0 (ji 0) fun h11=>gq (.nsq (.block (.loop ?_))))))))))
 exact zgV H x2 x3 x1 F 0 _ ⟨h1,h2,h6,h9,h10,h11⟩ h
end
def e62 (F:Nat):Ent:=ent 62 (fun (x:(LI×Int×Int×Unit))=>Zy F x.1 x.2.1 x.2.2.1) (fun (r:Bool)=>(Enc.enc (r:Bool))) 0 false []
abbrev C62 (D:List V→Option V) (F:Nat):Prop:=∀ (x0:LI) (x1:Int) (x2:Int) r,Zy F x0 x1 x2=some r→D [Enc.enc x0,Enc.enc x1,Enc.enc x2]=some (Enc.enc (r:Bool))
theorem p62 {F:Nat}:C62 (e62 F).den F:=fun x0 x1 x2 _ h=>zS (x0,x1,x2,()) h
theorem o62 (hF:zG Try.prog D σ) (H:H62 D σ F):(e62 F).Ok Try.prog:=okZ (f:=62) Try.func62 fun ⟨x0,x1,x2,_⟩ y hy=>cR hF Try.func62 c62 (t62 H x0 x1 x2 _ ⟨rfl,rfl,rfl⟩ hy)
def zs0:AC:=(rr [jm 12 3,jm 13 5,jv 14 (.bin .shl (jn 1) (.t 13)),jv 15 (.bin .or (.t 12) (.t 14)),jm 3 15])
def zpb:AC:=(rr [jv 16 (.bin .add (.t 8) (jn 1)),jm 8 16])
def zpY:AC:=(.seq (.block 1 (.seq (rr [jv 10 (.idx (.t 6) (.t 8) 1),jl 11 10,jm 5 11]) zs0)) zpb)
def zrV:AC:=(.seq (.cond (.t 9) .skip (.exit 0)) zpY)
def zjk:AC:=(.seq (rr [jv 9 (.bin .lss (.t 8) (.t 7))]) zrV)
def zkT:AC:=(.seq (rr [jm 17 3,jm 2 17]) .ret)
def zot:AC:=(.block 0 (.loop zjk))
def zqm:AC:=(.seq (.seq (rr [jm 6 0,jk 7 6,jv 8 (.mov (jn 0))]) zot) zkT)
def zue:AC:=(.seq (rr [jv 3 (.mov (jn 0))]) zqm)
def A63:AC:=(.seq (rr [jv 2 (.mov (jn 0))]) zue)
def zux:List An:=[]
theorem c63:cq Try.prog Try.f63 zux=some A63:=by kernel_rfl
structure H63 (D:Den) (σ:Sig) (F:Nat):Prop where
 mk ::
abbrev R63 (r:Int):(Nat→V)→Prop:=RR Try.prog [.tmp 2] 0 false (Enc.enc (r:Int))
section
variable {r:Int}
def uN (F:Nat) (x1:LI) :Nat→Int→Int→Option Int
 | 0,_,_=>none
 | k + 1,x4,x5=>
   bif decide (x5 < (x1.length:Int)) then
    (idx x1 x5).bind fun v8=>
    (Wc .i64 1 v8).bind fun q9=>
    (uN F x1 k) (ior .i64 x4 q9) (w64 (x5 + 1))
   else
    some x4
theorem zjO (H:H63 D σ F) (x1:LI) :∀ (k:Nat) (x4:Int) (x5:Int) (s:Nat→V),zr [(2,ji 0),(3,ji x4),(6,eL x1),(7,ji (x1.length:Int)),(8,ji x5)] s→uN F x1 k x4 x5=some r→Run D σ (R63 r) (.run zjk [.lp zjk,.bk 0,.sq zkT]) s:=by
 intro k
 induction k with
 | zero=>intro x4 x5 s _ h;exact nm h
 | succ k ih=>
   intro x4 x5 s hs h
   rw [uN] at h
   obtain ⟨h2,h3,h6,h7,h8⟩:=hs
   refine .seq (rg (g2 8 7 (jb (decide (x5 < (x1.length:Int)))) h8 h7 fun h9=>gq (.nsq (.seq (zn h9 h (fun h=>?_) (fun h=>?_))))))
   · refine .skip (.nsq (.seq (.block (.seq (rg ?_)))))
     obtain ⟨v8,Ev8,h⟩:=zc h
     refine gv (.ref .sh 0 [] (ji v8)) (yg (t:=.sh) (lo:=0) (xs:=x1) h6 h8 Ev8 rfl rfl) fun h10=>g1 10 (ji v8) h10 fun h11=>gm h11 fun h5=>gq (.nsq (rg (gm h3 fun h12=>gm h5 fun h13=>?_)))
     obtain ⟨q9,Eq9,h⟩:=zc h
     refine gv (ji q9) (Y9 rfl h13 Eq9) fun h14=>g2 12 14 (ji (ior .i64 x4 q9)) h12 h14 fun h15=>gm h15 fun h3=>gq (.nbk (.nsq (rg (g1 8 (ji (w64 (x5 + 1))) h8 fun h16=>gm h16 fun h8=>gq (.nlp ?_)))))
     exact ih (ior .i64 x4 q9) (w64 (x5 + 1)) _ ⟨h2,h3,h6,h7,h8⟩ h
   refine .exit (.esq (.elp (.ebk (.nsq (.seq (rg (gm h3 fun h17=>gm h17 fun h2=>gq (.nsq (.ret ?_)))))))))
   obtain rfl:=oi h
   exact rrA (zm h2) rfl
def Wt (F:Nat) (x1:LI):Option Int:=
 uN F x1 F 0 0
theorem t63 (H:H63 D σ F) (x1:LI) (s:Nat→V) (hs:zr [(0,eL x1)] s) (h:Wt F x1=some r):Run D σ (R63 r) (.run A63 []) s:=by
 unfold Wt at h
 have h0:=hs
 refine .seq (rg (g0 (ji 0) fun h2=>gq (.nsq (.seq (rg (g0 (ji 0) fun h3=>gq (.nsq (.seq (.seq (rg (gm h0 fun h6=>gl x1 h6 fun h7=>g0 (ji 0) fun h8=>gq (.nsq (.block (.loop ?_))))))))))))))
 exact zjO H x1 F 0 0 _ ⟨h2,h3,h6,h7,h8⟩ h
end
def e63 (F:Nat):Ent:=ent 63 (fun (x:(LI×Unit))=>Wt F x.1) (fun (r:Int)=>(Enc.enc (r:Int))) 0 false []
abbrev C63 (D:List V→Option V) (F:Nat):Prop:=∀ (x0:LI) r,Wt F x0=some r→D [Enc.enc x0]=some (Enc.enc (r:Int))
theorem p63 {F:Nat}:C63 (e63 F).den F:=fun x0 _ h=>zS (x0,()) h
theorem o63 (hF:zG Try.prog D σ) (H:H63 D σ F):(e63 F).Ok Try.prog:=okZ (f:=63) Try.func63 fun ⟨x0,_⟩ y hy=>cR hF Try.func63 c63 (t63 H x0 _ rfl hy)
end Go.Zq
