/- Functions of the program as typed functions, and that the machine runs as they say (part 4). No further condition. -/
import Derived.Test.YtelahampjnaimabK4
import Derived.Test.YtelahampjnaimabKC
import Derived.Test.YtelahampjnaimabProg
import Derived.Test.YtelahampjnaimabChecked
import Derived.KernelRfl
import Derived.Test.YtelahampjnaimabG3
set_option linter.unusedVariables false
set_option linter.unusedSimpArgs false
namespace Go.Zq
open Go.Proofs Go.Shelf
variable {D:Den} {σ:Sig} {F:Nat}
def zrf:AC:=(.cond (.t 16) .skip (.exit 0))
def zk8:AC:=(.cond (.t 24) .skip (.exit 2))
def zk6:AC:=(.cond (.t 38) (rr [jm 39 6,jm 5 39]) .skip)
def zdM:AC:=(rr [jm 25 6,jv 26 (.bin .add (.t 25) (jn 1)),jm 6 26])
def zlG:AC:=(.seq (.block 3 (.seq (rr [jm 27 4,jm 28 6,jx 29 (.call (jf 38) [.t 27,.t 28]),jv 30 (.un .not (.t 29)),jm 31 30,jg 32 31 true (.load (.ag [.s,.p]) (.t 1)),jg 33 31 true (.load (.ag [.s,.p]) (.t 1)),jg 34 31 true (.mov (.t 4)),jg 35 31 true (.mov (.t 6)),.mk (some 36) (some (31,true)) false (.call (jf 40) [.t 33,.t 34,.t 35]),.mk (some 37) (some (31,true)) false (.call (jf 39) [.t 32,.t 36]),jv 38 (.pick (.t 31) (.t 37) kf)]) zk6)) zdM)
def UP:AC:=(.seq (.seq (rr [jm 17 6,jv 18 (.fld (.t 1) 0 0),jl 19 18,jv 20 (.bin .lss (.t 17) (.t 19)),jm 21 20,jg 22 21 true (.mov (.t 5)),jg 23 21 true (.bin .lss (.t 22) (jn 0)),jv 24 (.pick (.t 21) (.t 23) kf)]) zk8) zlG)
def zrM:AC:=(.block 2 (.loop UP))
def znD:AC:=(.cond (.t 41) (.seq (.reg [.clr [42]] [jx 42 (.lit i0 0 []),jm 2 42,jv 3 (.mov kf)] [.home 42 2]) .ret) .skip)
def znv:AC:=(.reg [.clr [45,46]] [jm 43 4,jm 44 5,jx 45 (.lit i0 1 [(0,0,.t 44)]),jx 46 (.app .s (.t 43) (.t 45)),jm 4 46] [.home 46 4])
def Jk:AC:=(.seq (.seq (rr [jm 40 5,jv 41 (.bin .lss (.t 40) (jn 0))]) znD) znv)
def zoi:AC:=(.seq (.seq (rr [jv 6 (.mov (jn 0))]) zrM) Jk)
def znS:AC:=(.block 1 (.seq (rr [jv 5 (.mov (jn (-1)))]) zoi))
def YY:AC:=(.seq (.seq (rr [jm 12 4,jk 13 12,jv 14 (.fld (.t 1) 0 0),jl 15 14,jv 16 (.bin .lss (.t 13) (.t 15))]) zrf) znS)
def YZ:AC:=(.seq (.reg [] [jm 47 4,jm 2 47,jv 3 (.mov kt)] [.home 4 2]) .ret)
def znO:AC:=(.cond (.t 10) (.seq (rr [jm 11 4,jm 2 11,jv 3 (.mov kf)]) .ret) .skip)
def zna:AC:=(.seq (.block 0 (.loop YY)) YZ)
def zlV:AC:=(.seq (.seq (rr [jv 8 (.load (.ag [.s,.p]) (.t 1)),jx 9 (.call (jf 37) [.t 8]),jv 10 (.un .not (.t 9))]) znO) zna)
def zmu:AC:=(.seq (.reg [.clr [7]] [jx 7 (.lit i0 0 []),jm 4 7] [.home 7 4]) zlV)
def A13:AC:=(.seq (.reg [.clr [1]] [jx 1 (.box (.t 0)),jv 2 (.mov (.k (.sl .nl .s 0 []))),jv 3 (.mov kf)] []) zmu)
def ztt:List An:=[⟨0,[.clr [1]],[],[],[]⟩,⟨1,[.clr [7]],[],[],[.home 7 4]⟩,⟨12,[.clr [42]],[],[],[.home 42 2]⟩,⟨13,[.clr [45,46]],[],[],[.home 46 4]⟩,⟨14,[],[],[],[.home 4 2]⟩]
theorem c13:cq Try.prog Try.f13 ztt=some A13:=by kernel_rfl
structure H13 (D:Den) (σ:Sig) (F:Nat):Prop where
 c37:C37 (D 37) F
 g37:σ 37=some (0,false)
 c38:C38 (D 38) F
 g38:σ 38=some (0,false)
 c40:C40 (D 40) F
 g40:σ 40=some (0,false)
 c39:C39 (D 39) F
 g39:σ 39=some (0,false)
abbrev R13 (r:(LI×Bool)):(Nat→V)→Prop:=RR Try.prog [.tmp 2,.tmp 3] 0 false (.tup [eL r.1,Enc.enc (r.2:Bool)])
section
variable {r:(LI×Bool)}
def xM (F:Nat) (x1:GR) (x33:LI) (x74:Int) (c1:LI→Option (LI×Bool)) (c4:Int→Int→Option (LI×Bool)) (x89:Int):Option (LI×Bool):=
 c4 x89 (w64 (x74 + 1))
theorem zcM (H:H13 D σ F) (x1:GR) (x33:LI) (x74:Int) (c1:LI→Option (LI×Bool)) (Hc1:∀ (x33:LI) (s:Nat→V),zu [(1,bG 1 x1),(2,nI),(3,jb false),(4,oI 4 [] (.of x33))] s→c1 x33=some r→Run D σ (R13 r) (.run YY [.lp YY,.bk 0,.sq YZ]) s) (c4:Int→Int→Option (LI×Bool)) (Hc4:∀ (x73:Int) (x74:Int) (s:Nat→V),zu [(1,bG 1 x1),(2,nI),(3,jb false),(4,oI 4 [] (.of x33)),(5,ji x73),(6,ji x74)] s→c4 x73 x74=some r→Run D σ (R13 r) (.run UP [.lp UP,.bk 2,.sq Jk,.bk 1,.lp YY,.bk 0,.sq YZ]) s) (x89:Int) (s:Nat→V) (hs:zu [(1,bG 1 x1),(2,nI),(3,jb false),(4,oI 4 [] (.of x33)),(5,ji x89),(6,ji x74)] s) (h:xM F x1 x33 x74 c1 c4 x89=some r):Run D σ (R13 r) (.nrm [.bk 3,.sq zdM,.lp UP,.bk 2,.sq Jk,.bk 1,.lp YY,.bk 0,.sq YZ]) s:=by
 unfold xM at h
 obtain ⟨h1,h2,h3,h4,h5,h6⟩:=hs
 refine .nbk (.nsq (rg (gm h6 fun h25=>g1 25 (ji (w64 (x74 + 1))) h25 fun h26=>gm h26 fun h6=>gq (.nlp ?_))))
 exact Hc4 x89 (w64 (x74 + 1)) _ ⟨h1,h2,h3,h4,h5,h6⟩ h
def xq (F:Nat) (x1:GR) (x33:LI) (x73:Int) (x74:Int) (c1:LI→Option (LI×Bool)) (c4:Int→Int→Option (LI×Bool)) (x88:Bool):Option (LI×Bool):=
 bif x88 then
  xM F x1 x33 x74 c1 c4 x74
 else
  xM F x1 x33 x74 c1 c4 x73
theorem zb7 (H:H13 D σ F) (x1:GR) (x33:LI) (x73:Int) (x74:Int) (c1:LI→Option (LI×Bool)) (Hc1:∀ (x33:LI) (s:Nat→V),zu [(1,bG 1 x1),(2,nI),(3,jb false),(4,oI 4 [] (.of x33))] s→c1 x33=some r→Run D σ (R13 r) (.run YY [.lp YY,.bk 0,.sq YZ]) s) (c4:Int→Int→Option (LI×Bool)) (Hc4:∀ (x73:Int) (x74:Int) (s:Nat→V),zu [(1,bG 1 x1),(2,nI),(3,jb false),(4,oI 4 [] (.of x33)),(5,ji x73),(6,ji x74)] s→c4 x73 x74=some r→Run D σ (R13 r) (.run UP [.lp UP,.bk 2,.sq Jk,.bk 1,.lp YY,.bk 0,.sq YZ]) s) (x88:Bool) (s:Nat→V) (hs:zu [(1,bG 1 x1),(2,nI),(3,jb false),(4,oI 4 [] (.of x33)),(5,ji x73),(6,ji x74),(38,jb x88)] s) (h:xq F x1 x33 x73 x74 c1 c4 x88=some r):Run D σ (R13 r) (.nrm [.sq zk6,.bk 3,.sq zdM,.lp UP,.bk 2,.sq Jk,.bk 1,.lp YY,.bk 0,.sq YZ]) s:=by
 unfold xq at h
 obtain ⟨h1,h2,h3,h4,h5,h6,h38⟩:=hs
 refine .nsq (zp h38 h (fun h=>?_) (fun h=>?_))
 · refine rg (gm h6 fun h39=>gm h39 fun h5=>gq ?_)
   exact zcM H x1 x33 x74 c1 Hc1 c4 Hc4 x74 _ ⟨h1,h2,h3,h4,h5,h6⟩ h
 refine .skip ?_
 exact zcM H x1 x33 x74 c1 Hc1 c4 Hc4 x73 _ ⟨h1,h2,h3,h4,h5,h6⟩ h
def xp (F:Nat) (x1:GR) (x33:LI) (x73:Int) (x74:Int) (c1:LI→Option (LI×Bool)) (c4:Int→Int→Option (LI×Bool)) (x84:Bool):Option (LI×Bool):=
 bif x84 then
  (ul F x33 x74).bind fun r90=>
  bif (!r90) then
   (Y1 F x1 x33 x74).bind fun r91=>
   (Ye F x1 r91).bind fun r92=>
   xq F x1 x33 x73 x74 c1 c4 r92
  else
   xq F x1 x33 x73 x74 c1 c4 false
 else
  bif decide (x73 < 0) then
   some ([],false)
  else
   (vL x33 [x73]).bind fun ap93=>
   c1 ap93
theorem zcw (H:H13 D σ F) (x1:GR) (x33:LI) (x73:Int) (x74:Int) (c1:LI→Option (LI×Bool)) (Hc1:∀ (x33:LI) (s:Nat→V),zu [(1,bG 1 x1),(2,nI),(3,jb false),(4,oI 4 [] (.of x33))] s→c1 x33=some r→Run D σ (R13 r) (.run YY [.lp YY,.bk 0,.sq YZ]) s) (c4:Int→Int→Option (LI×Bool)) (Hc4:∀ (x73:Int) (x74:Int) (s:Nat→V),zu [(1,bG 1 x1),(2,nI),(3,jb false),(4,oI 4 [] (.of x33)),(5,ji x73),(6,ji x74)] s→c4 x73 x74=some r→Run D σ (R13 r) (.run UP [.lp UP,.bk 2,.sq Jk,.bk 1,.lp YY,.bk 0,.sq YZ]) s) (x84:Bool) (s:Nat→V) (hs:zu [(1,bG 1 x1),(2,nI),(3,jb false),(4,oI 4 [] (.of x33)),(5,ji x73),(6,ji x74),(24,jb x84)] s) (h:xp F x1 x33 x73 x74 c1 c4 x84=some r):Run D σ (R13 r) (.nrm [.sq zk8,.sq zlG,.lp UP,.bk 2,.sq Jk,.bk 1,.lp YY,.bk 0,.sq YZ]) s:=by
 unfold xp at h
 obtain ⟨h1,h2,h3,h4,h5,h6,h24⟩:=hs
 refine .nsq (zp h24 h (fun h=>?_) (fun h=>?_))
 · refine .skip (.nsq (.seq (.block (.seq (rg (gm h4 fun h27=>gm h6 fun h28=>?_))))))
   obtain ⟨r90,Er90,h⟩:=zc h
   refine gcF [eL x33,Enc.enc (x74:Int)] (zh h27 rfl (vK (o:=.of x33)) (zh h28 rfl rfl zI)) (H.c38 _ _ _ Er90) H.g38 (g1 29 (jb (!r90)) (rf (jb r90)) fun h30=>gm h30 fun h31=>yj h (fun hg5 h=>?_) (fun hg5 h=>?_))
   · refine zt (ct h31 hg5) (g1 1 (gV x1) h1 fun h32=>zt (ct h31 hg5) (g1 1 (gV x1) h1 fun h33=>zt (ct h31 hg5) (gm h4 fun h34=>zt (ct h31 hg5) (gm h6 fun h35=>?_))))
     obtain ⟨r91,Er91,h⟩:=zc h
     refine zt (ct h31 hg5) (gcF [Enc.enc (x1:GR),eL x33,Enc.enc (x74:Int)] (zh h33 rfl (Enc.erase_enc (x1:GR)) (zh h34 rfl (vK (o:=.of x33)) (zh h35 rfl rfl zI))) (H.c40 _ _ _ _ Er91) H.g40 ?_)
     obtain ⟨r92,Er92,h⟩:=zc h
     refine zt (ct h31 hg5) (gcF [Enc.enc (x1:GR),eL r91] (zh h32 rfl (Enc.erase_enc (x1:GR)) (zh (v:=eL r91) rfl rfl (Enc.erase_enc (r91:LI)) zI)) (H.c39 _ _ _ Er92) H.g39 (g2 31 37 (jb r92) (ct h31 hg5) (rf (jb r92)) fun h38=>gq ?_))
     exact zb7 H x1 x33 x73 x74 c1 Hc1 c4 Hc4 r92 _ ⟨h1,h2,h3,h4,h5,h6,h38⟩ h
   iterate 6 refine yY (ct h31 hg5) ?_
   refine g2 31 37 (jb false) (ct h31 hg5) (rf (.tup [])) fun h38=>gq ?_
   exact zb7 H x1 x33 x73 x74 c1 Hc1 c4 Hc4 false _ ⟨h1,h2,h3,h4,h5,h6,h38⟩ h
 refine .exit (.esq (.elp (.ebk (.nsq (.seq (.seq (rg (gm h5 fun h40=>g1 40 (jb (decide (x73 < 0))) h40 fun h41=>gq (.nsq (zp h41 h (fun h=>?_) (fun h=>?_)))))))))))
 · refine .seq (zA (zZ ?_))
   refine ez [(1,_),(2,_),(3,_),(4,_),(5,_),(42,_)] ⟨za h1 rfl (zi rfl mIE),za h2 rfl rfl,za h3 rfl mb,za h4 rfl (zo (r:=4) (p:=[]) rfl rfl),za h5 rfl mi,ze rfl⟩ ?_
   rintro s ⟨h1,h2,h3,h4,h5,h42⟩
   refine wA [] [] trivial rfl rfl h42 (gm (rf (oI 42 [] (.of []))) fun h2=>g0 (jb false) fun h3=>xo (y0 (r:=42) (x:=2) (v:=_) h2 rfl (fun s21 hz21=>?_)))
   refine ez [(1,bG 1 x1),(2,oI 2 [] (.of [])),(3,jb false),(4,oI 4 [] (.of x33)),(5,ji x73)] ⟨hz21 1 _ _ h1 (zi rfl mIE),hz21 2 _ _ h2 (zo (r:=42) (p:=[]) rfl rfl),hz21 3 _ _ h3 mb,hz21 4 _ _ h4 (zo (r:=4) (p:=[]) rfl rfl),hz21 5 _ _ h5 mi⟩ ?_
   rintro s ⟨h1,h2,h3,h4,h5⟩
   refine .nsq (.ret ?_)
   obtain rfl:=oi h
   exact rrB (zr h2) (zr h3) (wP (ZF (yp (vk (o:=.of [])) (yp (wx (x:=(false:Bool))) wG))) (Xv (yz (xI rfl) (yz rfl wI))))
 refine .skip (.nsq (zA (zZ ?_)))
 refine ez [(1,_),(2,_),(3,_),(4,_),(5,_),(45,_),(46,_)] ⟨za h1 rfl (zi rfl mIE),za h2 rfl rfl,za h3 rfl mb,za h4 rfl (zo (r:=4) (p:=[]) rfl rfl),za h5 rfl mi,ze rfl,ze rfl⟩ ?_
 rintro s ⟨h1,h2,h3,h4,h5,h45,h46⟩
 refine gm h4 fun h43=>gm h5 fun h44=>wA [(44,ji x73)] [Enc.enc (x73:Int)] h44 rfl rfl h45 ?_
 obtain ⟨ap93,Eap93,h⟩:=zc h
 refine XQ (q:=4) (p:=[]) (o:=.of (x33:LI)) (ys:=([x73]:LI)) (t2:=.at 45 []) (lo2:=0) h43 rfl rfl h46 (ZT (o:=.of (x33:LI)) Eap93 trivial) (fun s23 ha23=>gm (rf (oI 46 [] (.of ap93))) fun h4=>xo (y0 (r:=46) (x:=4) (v:=_) h4 rfl (fun s24 hz24=>?_)))
 refine ez [(1,bG 1 x1),(2,nI),(3,jb false),(4,oI 4 [] (.of ap93))] ⟨hz24 1 _ _ (show s23 1=(bG 1 x1) from zR ha23 h1 (zi rfl mIE)) (zi rfl mIE),hz24 2 _ nI (show s23 2=nI from zR ha23 h2 rfl) rfl,hz24 3 _ _ (show s23 3=(jb false) from zR ha23 h3 mb) mb,hz24 4 _ _ h4 (zo (r:=46) (p:=[]) rfl rfl)⟩ ?_
 rintro s ⟨h1,h2,h3,h4⟩
 refine .nbk (.nlp ?_)
 exact Hc1 ap93 _ ⟨h1,h2,h3,h4⟩ h
def yc (F:Nat) (x1:GR) (x33:LI) (c1:LI→Option (LI×Bool)):Nat→Int→Int→Option (LI×Bool)
 | 0,_,_=>none
 | k + 1,x73,x74=>
   bif decide (x74 < x1.1) then
    xp F x1 x33 x73 x74 c1 (yc F x1 x33 c1 k) (decide (x73 < 0))
   else
    xp F x1 x33 x73 x74 c1 (yc F x1 x33 c1 k) false
theorem zgU (H:H13 D σ F) (x1:GR) (x33:LI) (c1:LI→Option (LI×Bool)) (Hc1:∀ (x33:LI) (s:Nat→V),zu [(1,bG 1 x1),(2,nI),(3,jb false),(4,oI 4 [] (.of x33))] s→c1 x33=some r→Run D σ (R13 r) (.run YY [.lp YY,.bk 0,.sq YZ]) s):∀ (k:Nat) (x73:Int) (x74:Int) (s:Nat→V),zu [(1,bG 1 x1),(2,nI),(3,jb false),(4,oI 4 [] (.of x33)),(5,ji x73),(6,ji x74)] s→yc F x1 x33 c1 k x73 x74=some r→Run D σ (R13 r) (.run UP [.lp UP,.bk 2,.sq Jk,.bk 1,.lp YY,.bk 0,.sq YZ]) s:=by
 intro k
 induction k with
 | zero=>intro x73 x74 s _ h;exact nm h
 | succ k ih=>
   intro x73 x74 s hs h
   rw [yc] at h
   obtain ⟨h1,h2,h3,h4,h5,h6⟩:=hs
   refine .seq (.seq (rg (gm h6 fun h17=>g1 1 (.ref (.bx 1) 0 [0] (ji x1.1)) h1 fun h18=>g1 18 (ji x1.1) h18 fun h19=>g2 17 19 (jb (decide (x74 < x1.1))) h17 h19 fun h20=>gm h20 fun h21=>yj h (fun hg5 h=>?_) (fun hg5 h=>?_))))
   · refine zt (ct h21 hg5) (gm h5 fun h22=>zt (ct h21 hg5) (g1 22 (jb (decide (x73 < 0))) h22 fun h23=>g2 21 23 (jb (decide (x73 < 0))) (ct h21 hg5) h23 fun h24=>gq ?_))
     exact zcw H x1 x33 x73 x74 c1 Hc1 (yc F x1 x33 c1 k) ih (decide (x73 < 0)) _ ⟨h1,h2,h3,h4,h5,h6,h24⟩ h
   iterate 2 refine yY (ct h21 hg5) ?_
   refine g2 21 23 (jb false) (ct h21 hg5) (rf (.tup [])) fun h24=>gq ?_
   exact zcw H x1 x33 x73 x74 c1 Hc1 (yc F x1 x33 c1 k) ih false _ ⟨h1,h2,h3,h4,h5,h6,h24⟩ h
def y7 (F:Nat) (x1:GR) :Nat→LI→Option (LI×Bool)
 | 0,_=>none
 | k + 1,x33=>
   bif decide ((x33.length:Int) < x1.1) then
    yc F x1 x33 (y7 F x1 k) F (-1) 0
   else
    some (x33,true)
theorem zir (H:H13 D σ F) (x1:GR) :∀ (k:Nat) (x33:LI) (s:Nat→V),zu [(1,bG 1 x1),(2,nI),(3,jb false),(4,oI 4 [] (.of x33))] s→y7 F x1 k x33=some r→Run D σ (R13 r) (.run YY [.lp YY,.bk 0,.sq YZ]) s:=by
 intro k
 induction k with
 | zero=>intro x33 s _ h;exact nm h
 | succ k ih=>
   intro x33 s hs h
   rw [y7] at h
   obtain ⟨h1,h2,h3,h4⟩:=hs
   refine .seq (.seq (rg (gm h4 fun h12=>gv (ji (x33.length:Int)) (XZ (o:=.of x33) h12) fun h13=>g1 1 (.ref (.bx 1) 0 [0] (ji x1.1)) h1 fun h14=>g1 14 (ji x1.1) h14 fun h15=>g2 13 15 (jb (decide ((x33.length:Int) < x1.1))) h13 h15 fun h16=>gq (.nsq (zp h16 h (fun h=>?_) (fun h=>?_))))))
   · refine .skip (.nsq (.block (.seq (rg (g0 (ji (-1)) fun h5=>gq (.nsq (.seq (.seq (rg (g0 (ji 0) fun h6=>gq (.nsq (.block (.loop ?_)))))))))))))
     exact zgU H x1 x33 (y7 F x1 k) ih F (-1) 0 _ ⟨h1,h2,h3,h4,h5,h6⟩ h
   refine .exit (.esq (.elp (.ebk (.nsq (.seq (rg (gm h4 fun h47=>gm h47 fun h2=>g0 (jb true) fun h3=>xo (y0 (r:=4) (x:=2) (v:=_) h2 rfl (fun s25 hz25=>?_)))))))))
   refine ez [(2,oI 2 [] (.of x33)),(3,jb true)] ⟨hz25 2 _ _ h2 (zo (r:=4) (p:=[]) rfl rfl),hz25 3 _ _ h3 mb⟩ ?_
   rintro s ⟨h2,h3⟩
   refine .nsq (.ret ?_)
   obtain rfl:=oi h
   exact rrB (zr h2) (zr h3) (wP (ZF (yp (vk (o:=.of x33)) (yp (wx (x:=(true:Bool))) wG))) (Xv (yz (xI rfl) (yz rfl wI))))
def yW (F:Nat) (x1:GR):Option (LI×Bool):=
 (YC F x1).bind fun r2=>
 bif (!r2) then
  some ([],false)
 else
  y7 F x1 F []
theorem t13 (H:H13 D σ F) (x1:GR) (s:Nat→V) (hs:zu [(0,gV x1)] s) (h:yW F x1=some r):Run D σ (R13 r) (.run A13 []) s:=by
 unfold yW at h
 have h0:=hs
 refine .seq (zA (zZ ?_))
 refine ez [(0,_),(1,_)] ⟨za h0 rfl mIE,ze rfl⟩ ?_
 rintro s ⟨h0,h1⟩
 refine xU (gV x1) (zx h0 rfl) h1 rfl (g0 nI fun h2=>g0 (jb false) fun h3=>gq (.nsq (.seq (zA (zZ ?_)))))
 refine ez [(1,_),(2,_),(3,_),(7,_)] ⟨za rfl rfl (zi rfl mIE),za h2 rfl rfl,za h3 rfl mb,ze rfl⟩ ?_
 rintro s ⟨h1,h2,h3,h7⟩
 refine wA [] [] trivial rfl rfl h7 (gm (rf (oI 7 [] (.of []))) fun h4=>xo (y0 (r:=7) (x:=4) (v:=_) h4 rfl (fun s3 hz3=>?_)))
 refine ez [(1,bG 1 x1),(2,nI),(3,jb false),(4,oI 4 [] (.of []))] ⟨hz3 1 _ _ h1 (zi rfl mIE),hz3 2 _ _ h2 rfl,hz3 3 _ _ h3 mb,hz3 4 _ _ h4 (zo (r:=7) (p:=[]) rfl rfl)⟩ ?_
 rintro s ⟨h1,h2,h3,h4⟩
 refine .nsq (.seq (.seq (rg (g1 1 (gV x1) h1 fun h8=>?_))))
 obtain ⟨r2,Er2,h⟩:=zc h
 refine gcF [Enc.enc (x1:GR)] (zh h8 rfl (Enc.erase_enc (x1:GR)) zI) (H.c37 _ _ Er2) H.g37 (g1 9 (jb (!r2)) (rf (jb r2)) fun h10=>gq (.nsq (zp h10 h (fun h=>?_) (fun h=>?_))))
 · refine .seq (rg (gm h4 fun h11=>gm h11 fun h2=>g0 (jb false) fun h3=>gq (.nsq (.ret ?_))))
   obtain rfl:=oi h
   exact rrB (zr h2) (zr h3) (wP (ZF (yp (vk (o:=.of [])) (yp (wx (x:=(false:Bool))) wG))) (Xv (yz (xI rfl) (yz rfl wI))))
 refine .skip (.nsq (.seq (.block (.loop ?_))))
 exact zir H x1 F [] _ ⟨h1,h2,h3,h4⟩ h
end
def e13 (F:Nat):Ent:=ent 13 (fun (x:(GR×Unit))=>yW F x.1) (fun (r:(LI×Bool))=>(.tup [eL r.1,Enc.enc (r.2:Bool)])) 0 false []
abbrev C13 (D:List V→Option V) (F:Nat):Prop:=∀ (x0:GR) r,yW F x0=some r→D [Enc.enc x0]=some (.tup [eL r.1,Enc.enc (r.2:Bool)])
theorem p13 {F:Nat}:C13 (e13 F).den F:=fun x0 _ h=>zS (x0,()) h
theorem o13 (hF:zF Try.prog D σ) (H:H13 D σ F):(e13 F).Ok Try.prog:=okZ (f:=13) Try.func13 fun ⟨x0,_⟩ y hy=>cR hF Try.func13 c13 (t13 H x0 _ rfl hy)
def zrJ:AC:=(.cond (.t 14) .skip (.exit 0))
def zsW:AC:=(.cond (.t 25) (.seq (rr [jv 4 (.mov kf)]) .ret) .skip)
def zpz:AC:=(rr [jm 15 5,jv 16 (.bin .add (.t 15) (jn 1)),jm 5 16])
def zq8:AC:=(.seq (.block 1 (.seq (rr [jm 17 0,jm 18 5,jv 19 (.idx (.t 17) (.t 18) 2),jv 20 (.load (.ag [.s,.s]) (.t 19)),jm 21 1,jm 22 5,jv 23 (.idx (.t 21) (.t 22) 2),jv 24 (.load (.ag [.s,.s]) (.t 23)),jv 25 (.eqP true (.t 20) (.t 24))]) zsW)) zpz)
def zhX:AC:=(.seq (.seq (rr [jm 11 5,jm 12 0,jk 13 12,jv 14 (.bin .lss (.t 11) (.t 13))]) zrJ) zq8)
def zlt:AC:=(.seq (rr [jv 4 (.mov kt)]) .ret)
def zr4:AC:=(.cond (.t 10) (.seq (rr [jv 4 (.mov kf)]) .ret) .skip)
def zmh:AC:=(.block 0 (.loop zhX))
def zo2:AC:=(.seq (.seq (rr [jv 5 (.mov (jn 0))]) zmh) zlt)
def zrL:AC:=(.seq (.seq (rr [jm 6 0,jk 7 6,jm 8 1,jk 9 8,jv 10 (.bin .neq (.t 7) (.t 9))]) zr4) zo2)
def A41:AC:=(.seq (rr [jv 4 (.mov kf)]) zrL)
def ztx:List An:=[]
theorem c41:cq Try.prog Try.f41 ztx=some A41:=by kernel_rfl
structure H41 (D:Den) (σ:Sig) (F:Nat):Prop where
 mk ::
abbrev R41 (r:Bool):(Nat→V)→Prop:=RR Try.prog [.tmp 4] 0 false (Enc.enc (r:Bool))
section
variable {r:Bool}
def Zh (F:Nat) (x1:TP) (x2:TP) :Nat→Int→Option Bool
 | 0,_=>none
 | k + 1,x5=>
   bif decide (x5 < (x1.length:Int)) then
    (idx x1 x5).bind fun v8=>
    (idx x2 x5).bind fun v9=>
    bif (!(v8.1 == v9.1 && v8.2 == v9.2)) then
     some false
    else
     (Zh F x1 x2 k) (w64 (x5 + 1))
   else
    some true
theorem zhq (H:H41 D σ F) (x1:TP) (x2:TP) :∀ (k:Nat) (x5:Int) (s:Nat→V),zu [(0,eP x1),(1,eP x2),(4,jb false),(5,ji x5)] s→Zh F x1 x2 k x5=some r→Run D σ (R41 r) (.run zhX [.lp zhX,.bk 0,.sq zlt]) s:=by
 intro k
 induction k with
 | zero=>intro x5 s _ h;exact nm h
 | succ k ih=>
   intro x5 s hs h
   rw [Zh] at h
   obtain ⟨h0,h1,h4,h5⟩:=hs
   refine .seq (.seq (rg (gm h5 fun h11=>gm h0 fun h12=>gl x1 h12 fun h13=>g2 11 13 (jb (decide (x5 < (x1.length:Int)))) h11 h13 fun h14=>gq (.nsq (zp h14 h (fun h=>?_) (fun h=>?_))))))
   · refine .skip (.nsq (.seq (.block (.seq (rg (gm h0 fun h17=>gm h5 fun h18=>?_))))))
     obtain ⟨v8,Ev8,h⟩:=zc h
     refine gv (.ref .sh 0 [] (.agg [ji v8.1,ji v8.2])) (yV (t:=.sh) (lo:=0) (xs:=x1) h17 h18 Ev8 rfl rfl) fun h19=>g1 19 (.agg [ji v8.1,ji v8.2]) h19 fun h20=>gm h1 fun h21=>gm h5 fun h22=>?_
     obtain ⟨v9,Ev9,h⟩:=zc h
     refine gv (.ref .sh 0 [] (.agg [ji v9.1,ji v9.2])) (yV (t:=.sh) (lo:=0) (xs:=x2) h21 h22 Ev9 rfl rfl) fun h23=>g1 23 (.agg [ji v9.1,ji v9.2]) h23 fun h24=>g2 20 24 (jb (!(v8.1 == v9.1 && v8.2 == v9.2))) h20 h24 fun h25=>gq (.nsq (zp h25 h (fun h=>?_) (fun h=>?_)))
     · refine .seq (rg (g0 (jb false) fun h4=>gq (.nsq (.ret ?_))))
       obtain rfl:=oi h
       exact rrA (zr h4) rfl
     refine .skip (.nbk (.nsq (rg (gm h5 fun h15=>g1 15 (ji (w64 (x5 + 1))) h15 fun h16=>gm h16 fun h5=>gq (.nlp ?_)))))
     exact ih (w64 (x5 + 1)) _ ⟨h0,h1,h4,h5⟩ h
   refine .exit (.esq (.elp (.ebk (.nsq (.seq (rg (g0 (jb true) fun h4=>gq (.nsq (.ret ?_)))))))))
   obtain rfl:=oi h
   exact rrA (zr h4) rfl
def Wj (F:Nat) (x1:TP) (x2:TP):Option Bool:=
 bif ((x1.length:Int) != (x2.length:Int)) then
  some false
 else
  Zh F x1 x2 F 0
theorem t41 (H:H41 D σ F) (x1:TP) (x2:TP) (s:Nat→V) (hs:zu [(0,eP x1),(1,eP x2)] s) (h:Wj F x1 x2=some r):Run D σ (R41 r) (.run A41 []) s:=by
 unfold Wj at h
 obtain ⟨h0,h1⟩:=hs
 refine .seq (rg (g0 (jb false) fun h4=>gq (.nsq (.seq (.seq (rg (gm h0 fun h6=>gl x1 h6 fun h7=>gm h1 fun h8=>gl x2 h8 fun h9=>g2 7 9 (jb ((x1.length:Int) != (x2.length:Int))) h7 h9 fun h10=>gq (.nsq (zp h10 h (fun h=>?_) (fun h=>?_))))))))))
 · refine .seq (rg (g0 (jb false) fun h4=>gq (.nsq (.ret ?_))))
   obtain rfl:=oi h
   exact rrA (zr h4) rfl
 refine .skip (.nsq (.seq (.seq (rg (g0 (ji 0) fun h5=>gq (.nsq (.block (.loop ?_))))))))
 exact zhq H x1 x2 F 0 _ ⟨h0,h1,h4,h5⟩ h
end
def e41 (F:Nat):Ent:=ent 41 (fun (x:(TP×TP×Unit))=>Wj F x.1 x.2.1) (fun (r:Bool)=>(Enc.enc (r:Bool))) 0 false []
abbrev C41 (D:List V→Option V) (F:Nat):Prop:=∀ (x0:TP) (x1:TP) r,Wj F x0 x1=some r→D [Enc.enc x0,Enc.enc x1]=some (Enc.enc (r:Bool))
theorem p41 {F:Nat}:C41 (e41 F).den F:=fun x0 x1 _ h=>zS (x0,x1,()) h
theorem o41 (hF:zF Try.prog D σ) (H:H41 D σ F):(e41 F).Ok Try.prog:=okZ (f:=41) Try.func41 fun ⟨x0,x1,_⟩ y hy=>cR hF Try.func41 c41 (t41 H x0 x1 _ ⟨rfl,rfl⟩ hy)
def zpB:AC:=(.seq (rr [jv 5 (.fld (.t 2) 0 0),jl 6 5,jv 7 (.fld (.t 3) 0 0),jl 8 7,jv 9 (.bin .eql (.t 6) (.t 8)),jm 10 9,jg 11 10 true (.fld (.t 2) 1 1),jg 12 10 true (.load .p (.t 11)),jg 13 10 true (.fld (.t 3) 1 1),jg 14 10 true (.load .p (.t 13)),.mk (some 15) (some (10,true)) false (.call (jf 41) [.t 12,.t 14]),jv 16 (.pick (.t 10) (.t 15) kf),jm 4 16]) .ret)
def A14:AC:=(.seq (.reg [.clr [2,3]] [jx 2 (.box (.t 0)),jx 3 (.box (.t 1)),jv 4 (.mov kf)] []) zpB)
def zuW:List An:=[⟨0,[.clr [2,3]],[],[],[]⟩]
theorem c14:cq Try.prog Try.f14 zuW=some A14:=by kernel_rfl
structure H14 (D:Den) (σ:Sig) (F:Nat):Prop where
 c41:C41 (D 41) F
 g41:σ 41=some (0,false)
abbrev R14 (r:Bool):(Nat→V)→Prop:=RR Try.prog [.tmp 4] 0 false (Enc.enc (r:Bool))
section
variable {r:Bool}
def Zd (F:Nat) (x1:GR) (x2:GR):Option Bool:=
 bif (x1.1 == x2.1) then
  (Wj F x1.2 x2.2).bind fun r3=>
  some r3
 else
  some false
theorem t14 (H:H14 D σ F) (x1:GR) (x2:GR) (s:Nat→V) (hs:zu [(0,gV x1),(1,gV x2)] s) (h:Zd F x1 x2=some r):Run D σ (R14 r) (.run A14 []) s:=by
 unfold Zd at h
 obtain ⟨h0,h1⟩:=hs
 refine .seq (zA (zZ ?_))
 refine ez [(0,_),(1,_),(2,_),(3,_)] ⟨za h0 rfl mIE,za h1 rfl mIE,ze rfl,ze rfl⟩ ?_
 rintro s ⟨h0,h1,h2,h3⟩
 refine xU (gV x1) (zx h0 rfl) h2 rfl (xU (gV x2) (zx h1 rfl) h3 rfl (g0 (jb false) fun h4=>gq (.nsq (.seq (rg (g1 2 (.ref (.bx 2) 0 [0] (ji x1.1)) (rf (bG 2 x1)) fun h5=>g1 5 (ji x1.1) h5 fun h6=>g1 3 (.ref (.bx 3) 0 [0] (ji x2.1)) (rf (bG 3 x2)) fun h7=>g1 7 (ji x2.1) h7 fun h8=>g2 6 8 (jb (x1.1 == x2.1)) h6 h8 fun h9=>gm h9 fun h10=>yj h (fun hg6 h=>?_) (fun hg6 h=>?_)))))))
 · refine zt (ct h10 hg6) (g1 2 (.ref (.bx 2) 0 [1] (eP x1.2)) (rf (bG 2 x1)) fun h11=>zt (ct h10 hg6) (g1 11 (eP x1.2) h11 fun h12=>zt (ct h10 hg6) (g1 3 (.ref (.bx 3) 0 [1] (eP x2.2)) (rf (bG 3 x2)) fun h13=>zt (ct h10 hg6) (g1 13 (eP x2.2) h13 fun h14=>?_))))
   obtain ⟨r3,Er3,h⟩:=zc h
   refine zt (ct h10 hg6) (gcF [eP x1.2,eP x2.2] (zh h12 rfl (Enc.erase_enc (x1.2:TP)) (zh h14 rfl (Enc.erase_enc (x2.2:TP)) zI)) (H.c41 _ _ _ Er3) H.g41 (g2 10 15 (jb r3) (ct h10 hg6) (rf (jb r3)) fun h16=>gm h16 fun h4=>gq (.nsq (.ret ?_))))
   obtain rfl:=oi h
   exact rrA (zr h4) rfl
 iterate 5 refine yY (ct h10 hg6) ?_
 refine g2 10 15 (jb false) (ct h10 hg6) (rf (.tup [])) fun h16=>gm h16 fun h4=>gq (.nsq (.ret ?_))
 obtain rfl:=oi h
 exact rrA (zr h4) rfl
end
def e14 (F:Nat):Ent:=ent 14 (fun (x:(GR×GR×Unit))=>Zd F x.1 x.2.1) (fun (r:Bool)=>(Enc.enc (r:Bool))) 0 false []
abbrev C14 (D:List V→Option V) (F:Nat):Prop:=∀ (x0:GR) (x1:GR) r,Zd F x0 x1=some r→D [Enc.enc x0,Enc.enc x1]=some (Enc.enc (r:Bool))
theorem p14 {F:Nat}:C14 (e14 F).den F:=fun x0 x1 _ h=>zS (x0,x1,()) h
theorem o14 (hF:zF Try.prog D σ) (H:H14 D σ F):(e14 F).Ok Try.prog:=okZ (f:=14) Try.func14 fun ⟨x0,x1,_⟩ y hy=>cR hF Try.func14 c14 (t14 H x0 x1 _ ⟨rfl,rfl⟩ hy)
def zoA:AC:=(.cond (.t 14) .skip (.exit 0))
def zqY:AC:=(.cond (.t 25) (.seq (rr [jv 4 (.mov kf)]) .ret) .skip)
def zsq:AC:=(rr [jm 15 5,jv 16 (.bin .add (.t 15) (jn 1)),jm 5 16])
def zrz:AC:=(.seq (.block 1 (.seq (rr [jm 17 0,jm 18 5,jv 19 (.idx (.t 17) (.t 18) 1),jl 20 19,jm 21 1,jm 22 5,jv 23 (.idx (.t 21) (.t 22) 1),jl 24 23,jv 25 (.bin .neq (.t 20) (.t 24))]) zqY)) zsq)
def zhT:AC:=(.seq (.seq (rr [jm 11 5,jm 12 0,jk 13 12,jv 14 (.bin .lss (.t 11) (.t 13))]) zoA) zrz)
def zle:AC:=(.seq (rr [jv 4 (.mov kt)]) .ret)
def zqW:AC:=(.cond (.t 10) (.seq (rr [jv 4 (.mov kf)]) .ret) .skip)
def znk:AC:=(.block 0 (.loop zhT))
def zso:AC:=(.seq (.seq (rr [jv 5 (.mov (jn 0))]) znk) zle)
def zoX:AC:=(.seq (.seq (rr [jm 6 0,jk 7 6,jm 8 1,jk 9 8,jv 10 (.bin .neq (.t 7) (.t 9))]) zqW) zso)
def A15:AC:=(.seq (rr [jv 4 (.mov kf)]) zoX)
def ztD:List An:=[]
theorem c15:cq Try.prog Try.f15 ztD=some A15:=by kernel_rfl
structure H15 (D:Den) (σ:Sig) (F:Nat):Prop where
 mk ::
abbrev R15 (r:Bool):(Nat→V)→Prop:=RR Try.prog [.tmp 4] 0 false (Enc.enc (r:Bool))
section
variable {r:Bool}
def Yf (F:Nat) (x1:LI) (x2:LI) :Nat→Int→Option Bool
 | 0,_=>none
 | k + 1,x5=>
   bif decide (x5 < (x1.length:Int)) then
    (idx x1 x5).bind fun v8=>
    (idx x2 x5).bind fun v9=>
    bif (v8 != v9) then
     some false
    else
     (Yf F x1 x2 k) (w64 (x5 + 1))
   else
    some true
theorem ziv (H:H15 D σ F) (x1:LI) (x2:LI) :∀ (k:Nat) (x5:Int) (s:Nat→V),zu [(0,eL x1),(1,eL x2),(4,jb false),(5,ji x5)] s→Yf F x1 x2 k x5=some r→Run D σ (R15 r) (.run zhT [.lp zhT,.bk 0,.sq zle]) s:=by
 intro k
 induction k with
 | zero=>intro x5 s _ h;exact nm h
 | succ k ih=>
   intro x5 s hs h
   rw [Yf] at h
   obtain ⟨h0,h1,h4,h5⟩:=hs
   refine .seq (.seq (rg (gm h5 fun h11=>gm h0 fun h12=>gl x1 h12 fun h13=>g2 11 13 (jb (decide (x5 < (x1.length:Int)))) h11 h13 fun h14=>gq (.nsq (zp h14 h (fun h=>?_) (fun h=>?_))))))
   · refine .skip (.nsq (.seq (.block (.seq (rg (gm h0 fun h17=>gm h5 fun h18=>?_))))))
     obtain ⟨v8,Ev8,h⟩:=zc h
     refine gv (.ref .sh 0 [] (ji v8)) (yV (t:=.sh) (lo:=0) (xs:=x1) h17 h18 Ev8 rfl rfl) fun h19=>g1 19 (ji v8) h19 fun h20=>gm h1 fun h21=>gm h5 fun h22=>?_
     obtain ⟨v9,Ev9,h⟩:=zc h
     refine gv (.ref .sh 0 [] (ji v9)) (yV (t:=.sh) (lo:=0) (xs:=x2) h21 h22 Ev9 rfl rfl) fun h23=>g1 23 (ji v9) h23 fun h24=>g2 20 24 (jb (v8 != v9)) h20 h24 fun h25=>gq (.nsq (zp h25 h (fun h=>?_) (fun h=>?_)))
     · refine .seq (rg (g0 (jb false) fun h4=>gq (.nsq (.ret ?_))))
       obtain rfl:=oi h
       exact rrA (zr h4) rfl
     refine .skip (.nbk (.nsq (rg (gm h5 fun h15=>g1 15 (ji (w64 (x5 + 1))) h15 fun h16=>gm h16 fun h5=>gq (.nlp ?_)))))
     exact ih (w64 (x5 + 1)) _ ⟨h0,h1,h4,h5⟩ h
   refine .exit (.esq (.elp (.ebk (.nsq (.seq (rg (g0 (jb true) fun h4=>gq (.nsq (.ret ?_)))))))))
   obtain rfl:=oi h
   exact rrA (zr h4) rfl
def UK (F:Nat) (x1:LI) (x2:LI):Option Bool:=
 bif ((x1.length:Int) != (x2.length:Int)) then
  some false
 else
  Yf F x1 x2 F 0
theorem t15 (H:H15 D σ F) (x1:LI) (x2:LI) (s:Nat→V) (hs:zu [(0,eL x1),(1,eL x2)] s) (h:UK F x1 x2=some r):Run D σ (R15 r) (.run A15 []) s:=by
 unfold UK at h
 obtain ⟨h0,h1⟩:=hs
 refine .seq (rg (g0 (jb false) fun h4=>gq (.nsq (.seq (.seq (rg (gm h0 fun h6=>gl x1 h6 fun h7=>gm h1 fun h8=>gl x2 h8 fun h9=>g2 7 9 (jb ((x1.length:Int) != (x2.length:Int))) h7 h9 fun h10=>gq (.nsq (zp h10 h (fun h=>?_) (fun h=>?_))))))))))
 · refine .seq (rg (g0 (jb false) fun h4=>gq (.nsq (.ret ?_))))
   obtain rfl:=oi h
   exact rrA (zr h4) rfl
 refine .skip (.nsq (.seq (.seq (rg (g0 (ji 0) fun h5=>gq (.nsq (.block (.loop ?_))))))))
 exact ziv H x1 x2 F 0 _ ⟨h0,h1,h4,h5⟩ h
end
def e15 (F:Nat):Ent:=ent 15 (fun (x:(LI×LI×Unit))=>UK F x.1 x.2.1) (fun (r:Bool)=>(Enc.enc (r:Bool))) 0 false []
abbrev C15 (D:List V→Option V) (F:Nat):Prop:=∀ (x0:LI) (x1:LI) r,UK F x0 x1=some r→D [Enc.enc x0,Enc.enc x1]=some (Enc.enc (r:Bool))
theorem p15 {F:Nat}:C15 (e15 F).den F:=fun x0 x1 _ h=>zS (x0,x1,()) h
theorem o15 (hF:zF Try.prog D σ) (H:H15 D σ F):(e15 F).Ok Try.prog:=okZ (f:=15) Try.func15 fun ⟨x0,x1,_⟩ y hy=>cR hF Try.func15 c15 (t15 H x0 x1 _ ⟨rfl,rfl⟩ hy)
def zsI:AC:=(.seq (rr [jm 5 1,jk 6 5,jm 7 0,jk 8 7,jv 9 (.bin .gtr (.t 6) (.t 8)),jm 10 9,jg 11 10 false (.mov (.t 1)),jg 12 10 false (.len (.t 11)),jg 13 10 false (.mov (.t 0)),jg 14 10 false (.len (.t 13)),jg 15 10 false (.bin .eql (.t 12) (.t 14)),jg 16 10 false (.mov (.t 15)),jg 17 16 true (.mov (.t 1)),jg 18 16 true (.mov (.t 0)),.mk (some 19) (some (16,true)) false (.call (jf 49) [.t 17,.t 18]),jg 20 16 true (.bin .lss (.t 19) (jn 0)),jg 21 10 false (.pick (.t 16) (.t 20) kf),jv 22 (.pick (.t 10) kt (.t 21)),jm 4 22]) .ret)
def A42:AC:=(.seq (rr [jv 4 (.mov kf)]) zsI)
def zuw:List An:=[]
theorem c42:cq Try.prog Try.f42 zuw=some A42:=by kernel_rfl
structure H42 (D:Den) (σ:Sig) (F:Nat):Prop where
 c49:C49 (D 49) F
 g49:σ 49=some (0,false)
abbrev R42 (r:Bool):(Nat→V)→Prop:=RR Try.prog [.tmp 4] 0 false (Enc.enc (r:Bool))
section
variable {r:Bool}
def uj (F:Nat) (x1:LI) (x2:LI):Option Bool:=
 bif decide ((x2.length:Int) > (x1.length:Int)) then
  some true
 else
  bif ((x2.length:Int) == (x1.length:Int)) then
   (wg F x2 x1).bind fun r3=>
   some (decide (r3 < 0))
  else
   some false
theorem t42 (H:H42 D σ F) (x1:LI) (x2:LI) (s:Nat→V) (hs:zu [(0,eL x1),(1,eL x2)] s) (h:uj F x1 x2=some r):Run D σ (R42 r) (.run A42 []) s:=by
 unfold uj at h
 obtain ⟨h0,h1⟩:=hs
 refine .seq (rg (g0 (jb false) fun h4=>gq (.nsq (.seq (rg (gm h1 fun h5=>gl x2 h5 fun h6=>gm h0 fun h7=>gl x1 h7 fun h8=>g2 6 8 (jb (decide ((x2.length:Int) > (x1.length:Int)))) h6 h8 fun h9=>gm h9 fun h10=>yj h (fun hg6 h=>?_) (fun hg6 h=>?_)))))))
 · iterate 6 refine yY (ct h10 hg6) ?_
   iterate 4 refine UD rfl ?_
   refine yY (ct h10 hg6) (g2 10 21 (jb true) (ct h10 hg6) (rf (.tup [])) fun h22=>gm h22 fun h4=>gq (.nsq (.ret ?_)))
   obtain rfl:=oi h
   exact rrA (zr h4) rfl
 refine zt (ct h10 hg6) (gm h1 fun h11=>zt (ct h10 hg6) (gl x2 h11 fun h12=>zt (ct h10 hg6) (gm h0 fun h13=>zt (ct h10 hg6) (gl x1 h13 fun h14=>zt (ct h10 hg6) (g2 12 14 (jb ((x2.length:Int) == (x1.length:Int))) h12 h14 fun h15=>zt (ct h10 hg6) (gm h15 fun h16=>yj h (fun hg12 h=>?_) (fun hg12 h=>?_)))))))
 · refine zt (ct h16 hg12) (gm h1 fun h17=>zt (ct h16 hg12) (gm h0 fun h18=>?_))
   obtain ⟨r3,Er3,h⟩:=zc h
   refine zt (ct h16 hg12) (gcF [eL x2,eL x1] (zh h17 rfl (Enc.erase_enc (x2:LI)) (zh h18 rfl (Enc.erase_enc (x1:LI)) zI)) (H.c49 _ _ _ Er3) H.g49 (zt (ct h16 hg12) (g1 19 (jb (decide (r3 < 0))) (rf (ji r3)) fun h20=>zt (ct h10 hg6) (g2 16 20 (jb (decide (r3 < 0))) (ct h16 hg12) h20 fun h21=>g2 10 21 (jb (decide (r3 < 0))) (ct h10 hg6) h21 fun h22=>gm h22 fun h4=>gq (.nsq (.ret ?_))))))
   obtain rfl:=oi h
   exact rrA (zr h4) rfl
 iterate 4 refine yY (ct h16 hg12) ?_
 refine zt (ct h10 hg6) (g2 16 20 (jb false) (ct h16 hg12) (rf (.tup [])) fun h21=>g2 10 21 (jb false) (ct h10 hg6) h21 fun h22=>gm h22 fun h4=>gq (.nsq (.ret ?_)))
 obtain rfl:=oi h
 exact rrA (zr h4) rfl
end
def e42 (F:Nat):Ent:=ent 42 (fun (x:(LI×LI×Unit))=>uj F x.1 x.2.1) (fun (r:Bool)=>(Enc.enc (r:Bool))) 0 false []
abbrev C42 (D:List V→Option V) (F:Nat):Prop:=∀ (x0:LI) (x1:LI) r,uj F x0 x1=some r→D [Enc.enc x0,Enc.enc x1]=some (Enc.enc (r:Bool))
theorem p42 {F:Nat}:C42 (e42 F).den F:=fun x0 x1 _ h=>zS (x0,x1,()) h
theorem o42 (hF:zF Try.prog D σ) (H:H42 D σ F):(e42 F).Ok Try.prog:=okZ (f:=42) Try.func42 fun ⟨x0,x1,_⟩ y hy=>cR hF Try.func42 c42 (t42 H x0 x1 _ ⟨rfl,rfl⟩ hy)
def znJ:AC:=(.cond (.t 8) .skip (.exit 0))
def zmL:AC:=(.cond (.t 15) (.reg [.clr [18,19]] [jm 16 3,jm 17 4,jx 18 (.lit i0 1 [(0,0,.t 17)]),jx 19 (.app .s (.t 16) (.t 18)),jm 3 19] [.home 19 3]) .skip)
def ziA:AC:=(rr [jm 9 4,jv 10 (.bin .add (.t 9) (jn 1)),jm 4 10])
def zmy:AC:=(.seq (.block 1 (.seq (rr [jm 11 0,jm 12 4,jv 13 (.bin .shr (.t 11) (.t 12)),jv 14 (.bin .and (.t 13) (jn 1)),jv 15 (.bin .eql (.t 14) (jn 1))]) zmL)) ziA)
def K5:AC:=(.seq (.seq (rr [jm 5 0,jm 6 4,jv 7 (.bin .shr (.t 5) (.t 6)),jv 8 (.bin .neq (.t 7) (jn 0))]) znJ) zmy)
def zax:AC:=(.seq (.reg [] [jm 20 3,jm 2 20] [.home 3 2]) .ret)
def znF:AC:=(.block 0 (.loop K5))
def zlN:AC:=(.seq (.seq (rr [jv 4 (.mov (jn 0))]) znF) zax)
def znM:AC:=(.seq (rr [jv 3 (.mov (.k (.sl .nl .s 0 [])))]) zlN)
def zrX:AC:=(.seq (rr [jv 2 (.mov (.k (.sl .nl .s 0 [])))]) znM)
def zqK:List An:=[⟨6,[.clr [18,19]],[],[],[.home 19 3]⟩,⟨7,[],[],[],[.home 3 2]⟩]
theorem c34o:cq Try.prog Try.f34 zqK=some zrX:=by kernel_rfl
structure zkE (D:Den) (σ:Sig) (F:Nat):Prop where
 mk ::
abbrev zkc (r:(NL Int)):(Nat→V)→Prop:=RR Try.prog [.tmp 2] 1 false (zm .sh (r:NL Int))
section
variable {r:(NL Int)}
def YN (F:Nat) (x1:Int) (x8:Int) (c1:(NL Int)→Int→Option (NL Int)) (x17:(NL Int)):Option (NL Int):=
 c1 x17 (w64 (x8 + 1))
theorem NA (H:zkE D σ F) (x1:Int) (x8:Int) (c1:(NL Int)→Int→Option (NL Int)) (Hc1:∀ (x7:(NL Int)) (x8:Int) (s:Nat→V),zu [(0,ji x1),(2,nI),(3,oI 3 [] x7),(4,ji x8)] s→c1 x7 x8=some r→Run D σ (zkc r) (.run K5 [.lp K5,.bk 0,.sq zax]) s) (x17:(NL Int)) (s:Nat→V) (hs:zu [(0,ji x1),(2,nI),(3,oI 3 [] x17),(4,ji x8)] s) (h:YN F x1 x8 c1 x17=some r):Run D σ (zkc r) (.nrm [.bk 1,.sq ziA,.lp K5,.bk 0,.sq zax]) s:=by
 unfold YN at h
 obtain ⟨h0,h2,h3,h4⟩:=hs
 refine .nbk (.nsq (rg (gm h4 fun h9=>g1 9 (ji (w64 (x8 + 1))) h9 fun h10=>gm h10 fun h4=>gq (.nlp ?_))))
 exact Hc1 x17 (w64 (x8 + 1)) _ ⟨h0,h2,h3,h4⟩ h
def vp (F:Nat) (x1:Int) :Nat→(NL Int)→Int→Option (NL Int)
 | 0,_,_=>none
 | k + 1,x7,x8=>
   (Uq .i64 x1 x8).bind fun q14=>
   bif (q14 != 0) then
    (Uq .i64 x1 x8).bind fun q15=>
    bif ((yu .i64 q15 1) == 1) then
     (vL x7.list [x8]).bind fun ap18=>
     YN F x1 x8 (vp F x1 k) (.of ap18)
    else
     YN F x1 x8 (vp F x1 k) x7
   else
    some x7
theorem zgq (H:zkE D σ F) (x1:Int) :∀ (k:Nat) (x7:(NL Int)) (x8:Int) (s:Nat→V),zu [(0,ji x1),(2,nI),(3,oI 3 [] x7),(4,ji x8)] s→vp F x1 k x7 x8=some r→Run D σ (zkc r) (.run K5 [.lp K5,.bk 0,.sq zax]) s:=by
 intro k
 induction k with
 | zero=>intro x7 x8 s _ h;exact nm h
 | succ k ih=>
   intro x7 x8 s hs h
   rw [vp] at h
   obtain ⟨h0,h2,h3,h4⟩:=hs
   refine .seq (.seq (rg (gm h0 fun h5=>gm h4 fun h6=>?_)))
   obtain ⟨q14,Eq14,h⟩:=zc h
   refine gv (ji q14) (Xc h5 h6 Eq14) fun h7=>g1 7 (jb (q14 != 0)) h7 fun h8=>gq (.nsq (zp h8 h (fun h=>?_) (fun h=>?_)))
   · refine .skip (.nsq (.seq (.block (.seq (rg (gm h0 fun h11=>gm h4 fun h12=>?_))))))
     obtain ⟨q15,Eq15,h⟩:=zc h
     refine gv (ji q15) (Xc h11 h12 Eq15) fun h13=>g1 13 (ji (yu .i64 q15 1)) h13 fun h14=>g1 14 (jb ((yu .i64 q15 1) == 1)) h14 fun h15=>gq (.nsq (zp h15 h (fun h=>?_) (fun h=>?_)))
     · refine zA (zZ ?_)
       refine ez [(0,_),(2,_),(3,_),(4,_),(18,_),(19,_)] ⟨za h0 rfl mi,za h2 rfl rfl,za h3 rfl (zo (r:=3) (p:=[]) rfl rfl),za h4 rfl mi,ze rfl,ze rfl⟩ ?_
       rintro s ⟨h0,h2,h3,h4,h18,h19⟩
       refine gv (oI 3 [] x7) (xQ h3 yG) fun h16=>gm h4 fun h17=>wA [(17,ji x8)] [Enc.enc (x8:Int)] h17 rfl rfl h18 ?_
       obtain ⟨ap18,Eap18,h⟩:=zc h
       refine XQ (q:=3) (p:=[]) (o:=(x7:NL Int)) (ys:=([x8]:LI)) (t2:=.at 18 []) (lo2:=0) h16 rfl rfl h19 (ZT (o:=(x7:NL Int)) Eap18 (by split <;> simp)) (fun s17 ha17=>gm (rf (oI 19 [] (.of ap18))) fun h3=>xo (y0 (r:=19) (x:=3) (v:=_) h3 rfl (fun s18 hz18=>?_)))
       refine ez [(0,ji x1),(2,nI),(3,oI 3 [] (.of ap18)),(4,ji x8)] ⟨hz18 0 _ _ (show s17 0=(ji x1) from zR ha17 h0 mi) mi,hz18 2 _ nI (show s17 2=nI from zR ha17 h2 rfl) rfl,hz18 3 _ _ h3 (zo (r:=19) (p:=[]) rfl rfl),hz18 4 _ _ (show s17 4=(ji x8) from zR ha17 h4 mi) mi⟩ ?_
       rintro s ⟨h0,h2,h3,h4⟩
       exact NA H x1 x8 (vp F x1 k) ih (.of ap18) _ ⟨h0,h2,h3,h4⟩ h
     refine .skip ?_
     exact NA H x1 x8 (vp F x1 k) ih x7 _ ⟨h0,h2,h3,h4⟩ h
   refine .exit (.esq (.elp (.ebk (.nsq (.seq (rg (gv (oI 3 [] x7) (xQ h3 yG) fun h20=>gv (oI 3 [] x7) (xQ h20 yG) fun h2=>xo (y0 (r:=3) (x:=2) (v:=_) h2 yG (fun s19 hz19=>?_)))))))))
   refine ez [(2,oI 2 [] x7)] (hz19 2 _ _ h2 (zo (r:=3) (p:=[]) rfl rfl)) ?_
   rintro s h2
   refine .nsq (.ret ?_)
   obtain rfl:=oi h
   exact rrA (zr h2) (YS (YL (o:=(x7:NL Int))) rfl (xI rfl))
def X8 (F:Nat) (x1:Int):Option (NL Int):=
 vp F x1 F .nil 0
theorem zui (H:zkE D σ F) (x1:Int) (s:Nat→V) (hs:zu [(0,ji x1)] s) (h:X8 F x1=some r):Run D σ (zkc r) (.run zrX []) s:=by
 unfold X8 at h
 have h0:=hs
 refine .seq (rg (g0 nI fun h2=>gq (.nsq (.seq (rg (g0 nI fun h3=>gq (.nsq (.seq (.seq (rg (g0 (ji 0) fun h4=>gq (.nsq (.block (.loop ?_))))))))))))))
 exact zgq H x1 F .nil 0 _ ⟨h0,h2,h3,h4⟩ h
end
def zmb (F:Nat):Ent:=ent 1000000034 (fun (x:(Int×Unit))=>X8 F x.1) (fun (r:(NL Int))=>(zm .sh (r:NL Int))) 1 false []
abbrev zp5 (D:List V→Option V) (F:Nat):Prop:=∀ (x0:Int) r,X8 F x0=some r→D [Enc.enc x0]=some (zm .sh (r:NL Int))
theorem ztZ {F:Nat}:zp5 (zmb F).den F:=fun x0 _ h=>zS (x0,()) h
theorem ztc (hF:zF Try.prog D σ) (H:zkE D σ F):(zmb F).Ok Try.prog:=okZ (f:=34) Try.func34 fun ⟨x0,_⟩ y hy=>cR hF Try.func34 c34o (zui H x0 _ rfl hy)
def zk5:AC:=(.cond (.t 28) (.reg [] [jm 29 7,jm 5 29] [.home 7 5]) .skip)
def zpt:AC:=(.seq (rr [jv 21 (.load (.ag [.p]) (.t 4)),jm 22 6,jx 23 (.call (jf 36) [.t 21,.t 22]),jm 24 23,jg 25 24 true (.mov (.t 5)),jg 26 24 true (.mov (.t 7)),.mk (some 27) (some (24,true)) false (.call (jf 42) [.t 25,.t 26]),jv 28 (.pick (.t 24) (.t 27) kf)]) zk5)
def zrU:AC:=(.seq (.reg [.clr [20]] [jm 19 6,jx 20 (.callO (jf 34) [.t 19]),jm 7 20] [.home 20 7]) zpt)
def ziw:AC:=(rr [jv 30 (.bin .add (.t 16) (jn 1)),jm 16 30])
def zps:AC:=(.seq (.block 1 (.seq (rr [jm 18 16,jm 6 18]) zrU)) ziw)
def zn0:AC:=(.seq (.cond (.t 17) .skip (.exit 0)) zps)
def KO:AC:=(.seq (rr [jv 17 (.bin .lss (.t 16) (.t 15))]) zn0)
def NG:AC:=(.seq (.reg [] [jm 31 5,jm 2 31,jv 3 (.mov kt)] [.home 5 2]) .ret)
def zlI:AC:=(.cond (.t 10) (.seq (rr [jv 2 (.mov (.k (.sl .nl .s 0 []))),jv 3 (.mov kf)]) .ret) .skip)
def zmZ:AC:=(.block 0 (.loop KO))
def zm1:AC:=(.seq (.seq (rr [jv 13 (.load (.ag [.p]) (.t 4)),jx 14 (.call (jf 32) [.t 13]),jv 15 (.bin .add (.t 14) (jn 1)),jv 16 (.mov (jn 0))]) zmZ) NG)
def zlT:AC:=(.seq (rr [jv 5 (.mov (.k (.sl .nl .s 0 [])))]) zm1)
def zml:AC:=(.seq (.reg [.clr [4]] [jv 11 (.load (.ag [.s,.p]) (.t 1)),jx 12 (.call (jf 23) [.t 11]),jx 4 (.alloc (.agg [.sl .nl .s 0 []])),jz (.store (.ag [.p]) (.t 4) (.t 12))] []) zlT)
def zpl:AC:=(.seq (.seq (rr [jv 8 (.load (.ag [.s,.p]) (.t 1)),jx 9 (.call (jf 21) [.t 8]),jv 10 (.un .not (.t 9))]) zlI) zml)
def A16:AC:=(.seq (.reg [.clr [1]] [jx 1 (.box (.t 0)),jv 2 (.mov (.k (.sl .nl .s 0 []))),jv 3 (.mov kf)] []) zpl)
def ztA:List An:=[⟨0,[.clr [1]],[],[],[]⟩,⟨3,[.clr [4]],[],[],[]⟩,⟨8,[.clr [20]],[],[1001],[.home 20 7]⟩,⟨10,[],[],[],[.home 7 5]⟩,⟨12,[],[],[],[.home 5 2]⟩]
theorem c16:cq Try.prog Try.f16 ztA=some A16:=by kernel_rfl
structure H16 (D:Den) (σ:Sig) (F:Nat):Prop where
 c21:C21 (D 21) F
 g21:σ 21=some (0,false)
 c23:C23 (D 23) F
 g23:σ 23=some (0,false)
 c32:C32 (D 32) F
 g32:σ 32=some (0,false)
 c34o:zp5 (D 1000000034) F
 g34o:σ 1000000034=some (1,false)
 c36:C36 (D 36) F
 g36:σ 36=some (0,false)
 c42:C42 (D 42) F
 g42:σ 42=some (0,false)
abbrev R16 (r:(LI×Bool)):(Nat→V)→Prop:=RR Try.prog [.tmp 2,.tmp 3] 0 false (.tup [eL r.1,Enc.enc (r.2:Bool)])
section
variable {r:(LI×Bool)}
def Z1 (F:Nat) (r3:(S1 LI)) (r4:Int) (x13:Int) (c1:(NL Int)→Int→Option (LI×Bool)) (x25:(NL Int)):Option (LI×Bool):=
 c1 x25 (w64 (x13 + 1))
theorem zcV (H:H16 D σ F) (r3:(S1 LI)) (r4:Int) (x13:Int) (c1:(NL Int)→Int→Option (LI×Bool)) (Hc1:∀ (x12:(NL Int)) (x13:Int) (s:Nat→V),zu [(2,nI),(3,jb false),(4,.ref (.bx 4) 0 [] (.agg [eL r3.a])),(5,oI 5 [] x12),(15,ji (w64 (r4 + 1))),(16,ji x13)] s→c1 x12 x13=some r→Run D σ (R16 r) (.run KO [.lp KO,.bk 0,.sq NG]) s) (x25:(NL Int)) (s:Nat→V) (hs:zu [(2,nI),(3,jb false),(4,.ref (.bx 4) 0 [] (.agg [eL r3.a])),(5,oI 5 [] x25),(15,ji (w64 (r4 + 1))),(16,ji x13)] s) (h:Z1 F r3 r4 x13 c1 x25=some r):Run D σ (R16 r) (.nrm [.bk 1,.sq ziw,.lp KO,.bk 0,.sq NG]) s:=by
 unfold Z1 at h
 obtain ⟨h2,h3,h4,h5,h15,h16⟩:=hs
 refine .nbk (.nsq (rg (g1 16 (ji (w64 (x13 + 1))) h16 fun h30=>gm h30 fun h16=>gq (.nlp ?_))))
 exact Hc1 x25 (w64 (x13 + 1)) _ ⟨h2,h3,h4,h5,h15,h16⟩ h
def ZZ (F:Nat) (r3:(S1 LI)) (x12:(NL Int)) (r21:(NL Int)) (r4:Int) (x13:Int) (c1:(NL Int)→Int→Option (LI×Bool)) (x24:Bool):Option (LI×Bool):=
 bif x24 then
  Z1 F r3 r4 x13 c1 r21
 else
  Z1 F r3 r4 x13 c1 x12
theorem zbR (H:H16 D σ F) (r3:(S1 LI)) (x12:(NL Int)) (r21:(NL Int)) (r4:Int) (x13:Int) (c1:(NL Int)→Int→Option (LI×Bool)) (Hc1:∀ (x12:(NL Int)) (x13:Int) (s:Nat→V),zu [(2,nI),(3,jb false),(4,.ref (.bx 4) 0 [] (.agg [eL r3.a])),(5,oI 5 [] x12),(15,ji (w64 (r4 + 1))),(16,ji x13)] s→c1 x12 x13=some r→Run D σ (R16 r) (.run KO [.lp KO,.bk 0,.sq NG]) s) (x24:Bool) (s:Nat→V) (hs:zu [(2,nI),(3,jb false),(4,.ref (.bx 4) 0 [] (.agg [eL r3.a])),(5,oI 5 [] x12),(7,oI 7 [] r21),(15,ji (w64 (r4 + 1))),(16,ji x13),(28,jb x24)] s) (h:ZZ F r3 x12 r21 r4 x13 c1 x24=some r):Run D σ (R16 r) (.nrm [.sq zk5,.bk 1,.sq ziw,.lp KO,.bk 0,.sq NG]) s:=by
 unfold ZZ at h
 obtain ⟨h2,h3,h4,h5,h7,h15,h16,h28⟩:=hs
 refine .nsq (zp h28 h (fun h=>?_) (fun h=>?_))
 · refine rg (gv (oI 7 [] r21) (xQ h7 yG) fun h29=>gv (oI 7 [] r21) (xQ h29 yG) fun h5=>xo (y0 (r:=7) (x:=5) (v:=_) h5 yG (fun s14 hz14=>?_)))
   refine ez [(2,nI),(3,jb false),(4,.ref (.bx 4) 0 [] (.agg [eL r3.a])),(5,oI 5 [] r21),(15,ji (w64 (r4 + 1))),(16,ji x13)] ⟨hz14 2 _ _ h2 rfl,hz14 3 _ _ h3 mb,hz14 4 _ _ h4 (zi rfl (zH (zf me zn))),hz14 5 _ _ h5 (zo (r:=7) (p:=[]) rfl rfl),hz14 15 _ _ h15 mi,hz14 16 _ _ h16 mi⟩ ?_
   rintro s ⟨h2,h3,h4,h5,h15,h16⟩
   exact zcV H r3 r4 x13 c1 Hc1 r21 _ ⟨h2,h3,h4,h5,h15,h16⟩ h
 refine .skip ?_
 exact zcV H r3 r4 x13 c1 Hc1 x12 _ ⟨h2,h3,h4,h5,h15,h16⟩ h
def wh (F:Nat) (r3:(S1 LI)) (r4:Int) :Nat→(NL Int)→Int→Option (LI×Bool)
 | 0,_,_=>none
 | k + 1,x12,x13=>
   bif decide (x13 < (w64 (r4 + 1))) then
    (X8 F x13).bind fun r21=>
    (ve F r3 x13).bind fun r26=>
    bif r26 then
     (uj F x12.list r21.list).bind fun r27=>
     ZZ F r3 x12 r21 r4 x13 (wh F r3 r4 k) r27
    else
     ZZ F r3 x12 r21 r4 x13 (wh F r3 r4 k) false
   else
    some (x12.list,true)
theorem ziy (H:H16 D σ F) (r3:(S1 LI)) (r4:Int) :∀ (k:Nat) (x12:(NL Int)) (x13:Int) (s:Nat→V),zu [(2,nI),(3,jb false),(4,.ref (.bx 4) 0 [] (.agg [eL r3.a])),(5,oI 5 [] x12),(15,ji (w64 (r4 + 1))),(16,ji x13)] s→wh F r3 r4 k x12 x13=some r→Run D σ (R16 r) (.run KO [.lp KO,.bk 0,.sq NG]) s:=by
 intro k
 induction k with
 | zero=>intro x12 x13 s _ h;exact nm h
 | succ k ih=>
   intro x12 x13 s hs h
   rw [wh] at h
   obtain ⟨h2,h3,h4,h5,h15,h16⟩:=hs
   refine .seq (rg (g2 16 15 (jb (decide (x13 < (w64 (r4 + 1))))) h16 h15 fun h17=>gq (.nsq (.seq (zp h17 h (fun h=>?_) (fun h=>?_))))))
   · refine .skip (.nsq (.seq (.block (.seq (rg (gm h16 fun h18=>gm h18 fun h6=>gq (.nsq (.seq (zA (zZ ?_))))))))))
     refine ez [(2,_),(3,_),(4,_),(5,_),(6,_),(15,_),(16,_),(20,_)] ⟨za h2 rfl rfl,za h3 rfl mb,za h4 rfl (zi rfl (zH (zf me zn))),za h5 rfl (zo (r:=5) (p:=[]) rfl rfl),za h6 rfl mi,za h15 rfl mi,za h16 rfl mi,ze rfl⟩ ?_
     rintro s ⟨h2,h3,h4,h5,h6,h15,h16,h20⟩
     refine gm h6 fun h19=>?_
     obtain ⟨r21,Er21,h⟩:=zc h
     refine ZR (m:=1) (al:=false) (r:=zm .sh (r21:NL Int)) (v:=oI 20 [] r21) (kk:=1000000034) [Enc.enc (x13:Int)] (zh h19 rfl rfl zI) (H.c34o _ _ Er21) H.g34o rfl vi vW wY h20 (gv (oI 20 [] r21) (xQ rfl yG) fun h7=>xo (y0 (r:=20) (x:=7) (v:=_) h7 yG (fun s12 hz12=>?_)))
     refine ez [(2,nI),(3,jb false),(4,.ref (.bx 4) 0 [] (.agg [eL r3.a])),(5,oI 5 [] x12),(6,ji x13),(7,oI 7 [] r21),(15,ji (w64 (r4 + 1))),(16,ji x13)] ⟨hz12 2 _ _ h2 rfl,hz12 3 _ _ h3 mb,hz12 4 _ _ h4 (zi rfl (zH (zf me zn))),hz12 5 _ _ h5 (zo (r:=5) (p:=[]) rfl rfl),hz12 6 _ _ h6 mi,hz12 7 _ _ h7 (zo (r:=20) (p:=[]) rfl rfl),hz12 15 _ _ h15 mi,hz12 16 _ _ h16 mi⟩ ?_
     rintro s ⟨h2,h3,h4,h5,h6,h7,h15,h16⟩
     refine .nsq (.seq (rg (g1 4 (.agg [eL r3.a]) h4 fun h21=>gm h6 fun h22=>?_)))
     obtain ⟨r26,Er26,h⟩:=zc h
     refine gcF [Enc.enc (r3:(S1 LI)),Enc.enc (x13:Int)] (zh h21 rfl (Enc.erase_enc (r3:(S1 LI))) (zh h22 rfl rfl zI)) (H.c36 _ _ _ Er26) H.g36 (gm (rf (jb r26)) fun h24=>yj h (fun hg4 h=>?_) (fun hg4 h=>?_))
     · refine zt (ct h24 hg4) (gv (oI 5 [] x12) (xQ h5 yG) fun h25=>zt (ct h24 hg4) (gv (oI 7 [] r21) (xQ h7 yG) fun h26=>?_))
       obtain ⟨r27,Er27,h⟩:=zc h
       refine zt (ct h24 hg4) (gcF [eL x12.list,eL r21.list] (zh h25 wY (vK (o:=x12)) (zh h26 wY (vK (o:=r21)) zI)) (H.c42 _ _ _ Er27) H.g42 (g2 24 27 (jb r27) (ct h24 hg4) (rf (jb r27)) fun h28=>gq ?_))
       exact zbR H r3 x12 r21 r4 x13 (wh F r3 r4 k) ih r27 _ ⟨h2,h3,h4,h5,h7,h15,h16,h28⟩ h
     iterate 3 refine yY (ct h24 hg4) ?_
     refine g2 24 27 (jb false) (ct h24 hg4) (rf (.tup [])) fun h28=>gq ?_
     exact zbR H r3 x12 r21 r4 x13 (wh F r3 r4 k) ih false _ ⟨h2,h3,h4,h5,h7,h15,h16,h28⟩ h
   refine .exit (.esq (.elp (.ebk (.nsq (.seq (rg (gv (oI 5 [] x12) (xQ h5 yG) fun h31=>gv (oI 5 [] x12) (xQ h31 yG) fun h2=>g0 (jb true) fun h3=>xo (y0 (r:=5) (x:=2) (v:=_) h2 yG (fun s15 hz15=>?_)))))))))
   refine ez [(2,oI 2 [] x12),(3,jb true)] ⟨hz15 2 _ _ h2 (zo (r:=5) (p:=[]) rfl rfl),hz15 3 _ _ h3 mb⟩ ?_
   rintro s ⟨h2,h3⟩
   refine .nsq (.ret ?_)
   obtain rfl:=oi h
   exact rrB (zr h2) (zr h3) (wP (ZF (yp (vk (o:=x12)) (yp (wx (x:=(true:Bool))) wG))) (Xv (yz (xI rfl) (yz rfl wI))))
def Yc (F:Nat) (x1:GR):Option (LI×Bool):=
 (vy F x1).bind fun r2=>
 bif (!r2) then
  some ([],false)
 else
  (ZO F x1).bind fun r3=>
  (xr F r3).bind fun r4=>
  wh F r3 r4 F .nil 0
theorem t16 (H:H16 D σ F) (x1:GR) (s:Nat→V) (hs:zu [(0,gV x1)] s) (h:Yc F x1=some r):Run D σ (R16 r) (.run A16 []) s:=by
 unfold Yc at h
 have h0:=hs
 refine .seq (zA (zZ ?_))
 refine ez [(0,_),(1,_)] ⟨za h0 rfl mIE,ze rfl⟩ ?_
 rintro s ⟨h0,h1⟩
 refine xU (gV x1) (zx h0 rfl) h1 rfl (g0 nI fun h2=>g0 (jb false) fun h3=>gq (.nsq (.seq (.seq (rg (g1 1 (gV x1) (rf (bG 1 x1)) fun h8=>?_))))))
 obtain ⟨r2,Er2,h⟩:=zc h
 refine gcF [Enc.enc (x1:GR)] (zh h8 rfl (Enc.erase_enc (x1:GR)) zI) (H.c21 _ _ Er2) H.g21 (g1 9 (jb (!r2)) (rf (jb r2)) fun h10=>gq (.nsq (zp h10 h (fun h=>?_) (fun h=>?_))))
 · refine .seq (rg (g0 nI fun h2=>g0 (jb false) fun h3=>gq (.nsq (.ret ?_))))
   obtain rfl:=oi h
   exact rrB (zr h2) (zr h3) (wP (ZF (yp (vk (o:=(.nil:NL Int)) (t:=.nl)) (yp (wx (x:=(false:Bool))) wG))) (Xv (yz MC (yz rfl wI))))
 refine .skip (.nsq (.seq (zA (zZ ?_))))
 refine ez [(1,_),(2,_),(3,_),(4,_)] ⟨za rfl rfl (zi rfl mIE),za h2 rfl rfl,za h3 rfl mb,ze rfl⟩ ?_
 rintro s ⟨h1,h2,h3,h4⟩
 refine g1 1 (gV x1) h1 fun h11=>?_
 obtain ⟨r3,Er3,h⟩:=zc h
 refine gcF [Enc.enc (x1:GR)] (zh h11 rfl (Enc.erase_enc (x1:GR)) zI) (H.c23 _ _ Er3) H.g23 (yR h4 (z5 (.agg [eL r3.a]) (zx rfl rfl) (zx rfl rfl) (xE (by first | rfl | simp [V.toks,V.tokss,Enc.toks_enc,zX])) (gz [(2,nI),(3,jb false),(4,.ref (.bx 4) 0 [] (.agg [eL r3.a]))] ⟨zd h2 rfl,zd h3 rfl,zd rfl rfl⟩ ?_)))
 rintro s ⟨h2,h3,h4⟩
 refine .nsq (.seq (rg (g0 nI fun h5=>gq (.nsq (.seq (.seq (rg (g1 4 (.agg [eL r3.a]) h4 fun h13=>?_))))))))
 obtain ⟨r4,Er4,h⟩:=zc h
 refine gcF [Enc.enc (r3:(S1 LI))] (zh h13 rfl (Enc.erase_enc (r3:(S1 LI))) zI) (H.c32 _ _ Er4) H.g32 (g1 14 (ji (w64 (r4 + 1))) (rf (ji r4)) fun h15=>g0 (ji 0) fun h16=>gq (.nsq (.block (.loop ?_))))
 exact ziy H r3 r4 F .nil 0 _ ⟨h2,h3,h4,h5,h15,h16⟩ h
end
def e16 (F:Nat):Ent:=ent 16 (fun (x:(GR×Unit))=>Yc F x.1) (fun (r:(LI×Bool))=>(.tup [eL r.1,Enc.enc (r.2:Bool)])) 0 false []
abbrev C16 (D:List V→Option V) (F:Nat):Prop:=∀ (x0:GR) r,Yc F x0=some r→D [Enc.enc x0]=some (.tup [eL r.1,Enc.enc (r.2:Bool)])
theorem p16 {F:Nat}:C16 (e16 F).den F:=fun x0 _ h=>zS (x0,()) h
theorem o16 (hF:zF Try.prog D σ) (H:H16 D σ F):(e16 F).Ok Try.prog:=okZ (f:=16) Try.func16 fun ⟨x0,_⟩ y hy=>cR hF Try.func16 c16 (t16 H x0 _ rfl hy)
def zqR:AC:=(.cond (.t 21) (rr [jm 22 5,jm 23 7,jv 24 (.bin .or (.t 22) (.t 23)),jm 5 24]) .skip)
def zqi:AC:=(.seq (rr [jm 17 1,jm 18 6,jv 19 (.bin .shr (.t 17) (.t 18)),jv 20 (.bin .and (.t 19) (jn 1)),jv 21 (.bin .eql (.t 20) (jn 1))]) zqR)
def zlr:AC:=(rr [jv 25 (.bin .add (.t 12) (jn 1)),jm 12 25])
def zrV:AC:=(.seq (.block 1 (.seq (rr [jm 14 12,jv 15 (.idx (.t 10) (.t 12) 1),jl 16 15,jm 6 14,jm 7 16]) zqi)) zlr)
def zn5:AC:=(.seq (.cond (.t 13) .skip (.exit 0)) zrV)
def ND:AC:=(.seq (rr [jv 13 (.bin .lss (.t 12) (.t 11))]) zn5)
def zel:AC:=(.seq (rr [jm 26 5,jm 4 26]) .ret)
def znw:AC:=(.block 0 (.loop ND))
def zo9:AC:=(.seq (.seq (rr [jv 9 (.fld (.t 2) 0 0),jv 10 (.load .p (.t 9)),jk 11 10,jv 12 (.mov (jn 0))]) znw) zel)
def zpG:AC:=(.seq (rr [jm 8 1,jm 5 8]) zo9)
def A81:AC:=(.seq (.reg [.clr [2]] [jx 2 (.box (.t 0)),jv 4 (.mov (jn 0))] []) zpG)
def zug:List An:=[⟨0,[.clr [2]],[],[],[]⟩]
theorem c81:cq Try.prog Try.f81 zug=some A81:=by kernel_rfl
structure H81 (D:Den) (σ:Sig) (F:Nat):Prop where
 mk ::
abbrev R81 (r:Int):(Nat→V)→Prop:=RR Try.prog [.tmp 4] 0 false (Enc.enc (r:Int))
section
variable {r:Int}
def uO (F:Nat) (x2:Int) (x1:(S1 LI)) (x7:Int) (c1:Int→Int→Option Int) (x13:Int):Option Int:=
 c1 x13 (w64 (x7 + 1))
theorem zbO (H:H81 D σ F) (x2:Int) (x1:(S1 LI)) (x7:Int) (c1:Int→Int→Option Int) (Hc1:∀ (x6:Int) (x7:Int) (s:Nat→V),zu [(1,ji x2),(4,ji 0),(5,ji x6),(10,eL x1.a),(11,ji (x1.a.length:Int)),(12,ji x7)] s→c1 x6 x7=some r→Run D σ (R81 r) (.run ND [.lp ND,.bk 0,.sq zel]) s) (x13:Int) (s:Nat→V) (hs:zu [(1,ji x2),(4,ji 0),(5,ji x13),(10,eL x1.a),(11,ji (x1.a.length:Int)),(12,ji x7)] s) (h:uO F x2 x1 x7 c1 x13=some r):Run D σ (R81 r) (.nrm [.bk 1,.sq zlr,.lp ND,.bk 0,.sq zel]) s:=by
 unfold uO at h
 obtain ⟨h1,h4,h5,h10,h11,h12⟩:=hs
 refine .nbk (.nsq (rg (g1 12 (ji (w64 (x7 + 1))) h12 fun h25=>gm h25 fun h12=>gq (.nlp ?_))))
 exact Hc1 x13 (w64 (x7 + 1)) _ ⟨h1,h4,h5,h10,h11,h12⟩ h
def xS (F:Nat) (x2:Int) (x1:(S1 LI)) :Nat→Int→Int→Option Int
 | 0,_,_=>none
 | k + 1,x6,x7=>
   bif decide (x7 < (x1.a.length:Int)) then
    (idx x1.a x7).bind fun v11=>
    (Uq .i64 x2 x7).bind fun q12=>
    bif ((yu .i64 q12 1) == 1) then
     uO F x2 x1 x7 (xS F x2 x1 k) (ior .i64 x6 v11)
    else
     uO F x2 x1 x7 (xS F x2 x1 k) x6
   else
    some x6
theorem zhb (H:H81 D σ F) (x2:Int) (x1:(S1 LI)) :∀ (k:Nat) (x6:Int) (x7:Int) (s:Nat→V),zu [(1,ji x2),(4,ji 0),(5,ji x6),(10,eL x1.a),(11,ji (x1.a.length:Int)),(12,ji x7)] s→xS F x2 x1 k x6 x7=some r→Run D σ (R81 r) (.run ND [.lp ND,.bk 0,.sq zel]) s:=by
 intro k
 induction k with
 | zero=>intro x6 x7 s _ h;exact nm h
 | succ k ih=>
   intro x6 x7 s hs h
   rw [xS] at h
   obtain ⟨h1,h4,h5,h10,h11,h12⟩:=hs
   refine .seq (rg (g2 12 11 (jb (decide (x7 < (x1.a.length:Int)))) h12 h11 fun h13=>gq (.nsq (.seq (zp h13 h (fun h=>?_) (fun h=>?_))))))
   · refine .skip (.nsq (.seq (.block (.seq (rg (gm h12 fun h14=>?_))))))
     obtain ⟨v11,Ev11,h⟩:=zc h
     refine gv (.ref .sh 0 [] (ji v11)) (yV (t:=.sh) (lo:=0) (xs:=x1.a) h10 h12 Ev11 rfl rfl) fun h15=>g1 15 (ji v11) h15 fun h16=>gm h14 fun h6=>gm h16 fun h7=>gq (.nsq (.seq (rg (gm h1 fun h17=>gm h6 fun h18=>?_))))
     obtain ⟨q12,Eq12,h⟩:=zc h
     refine gv (ji q12) (Xc h17 h18 Eq12) fun h19=>g1 19 (ji (yu .i64 q12 1)) h19 fun h20=>g1 20 (jb ((yu .i64 q12 1) == 1)) h20 fun h21=>gq (.nsq (zp h21 h (fun h=>?_) (fun h=>?_)))
     · refine rg (gm h5 fun h22=>gm h7 fun h23=>g2 22 23 (ji (ior .i64 x6 v11)) h22 h23 fun h24=>gm h24 fun h5=>gq ?_)
       exact zbO H x2 x1 x7 (xS F x2 x1 k) ih (ior .i64 x6 v11) _ ⟨h1,h4,h5,h10,h11,h12⟩ h
     refine .skip ?_
     exact zbO H x2 x1 x7 (xS F x2 x1 k) ih x6 _ ⟨h1,h4,h5,h10,h11,h12⟩ h
   refine .exit (.esq (.elp (.ebk (.nsq (.seq (rg (gm h5 fun h26=>gm h26 fun h4=>gq (.nsq (.ret ?_)))))))))
   obtain rfl:=oi h
   exact rrA (zr h4) rfl
def uJ (F:Nat) (x1:(S1 LI)) (x2:Int):Option Int:=
 xS F x2 x1 F x2 0
theorem t81 (H:H81 D σ F) (x1:(S1 LI)) (x2:Int) (s:Nat→V) (hs:zu [(0,.agg [eL x1.a]),(1,ji x2)] s) (h:uJ F x1 x2=some r):Run D σ (R81 r) (.run A81 []) s:=by
 unfold uJ at h
 obtain ⟨h0,h1⟩:=hs
 refine .seq (zA (zZ ?_))
 refine ez [(0,_),(1,_),(2,_)] ⟨za h0 rfl (zH (zf me zn)),za h1 rfl mi,ze rfl⟩ ?_
 rintro s ⟨h0,h1,h2⟩
 refine xU (.agg [eL x1.a]) (zx h0 rfl) h2 rfl (g0 (ji 0) fun h4=>gq (.nsq (.seq (rg (gm h1 fun h8=>gm h8 fun h5=>gq (.nsq (.seq (.seq (rg (g1 2 (.ref (.bx 2) 0 [0] (eL x1.a)) (rf (.ref (.bx 2) 0 [] (.agg [eL x1.a]))) fun h9=>g1 9 (eL x1.a) h9 fun h10=>gl x1.a h10 fun h11=>g0 (ji 0) fun h12=>gq (.nsq (.block (.loop ?_)))))))))))))
 exact zhb H x2 x1 F x2 0 _ ⟨h1,h4,h5,h10,h11,h12⟩ h
end
def e81 (F:Nat):Ent:=ent 81 (fun (x:((S1 LI)×Int×Unit))=>uJ F x.1 x.2.1) (fun (r:Int)=>(Enc.enc (r:Int))) 0 false []
abbrev C81 (D:List V→Option V) (F:Nat):Prop:=∀ (x0:(S1 LI)) (x1:Int) r,uJ F x0 x1=some r→D [Enc.enc x0,Enc.enc x1]=some (Enc.enc (r:Int))
theorem p81 {F:Nat}:C81 (e81 F).den F:=fun x0 x1 _ h=>zS (x0,x1,()) h
theorem o81 (hF:zF Try.prog D σ) (H:H81 D σ F):(e81 F).Ok Try.prog:=okZ (f:=81) Try.func81 fun ⟨x0,x1,_⟩ y hy=>cR hF Try.func81 c81 (t81 H x0 x1 _ ⟨rfl,rfl⟩ hy)
def zpD:AC:=(.cond (.t 21) (.exit 0) .skip)
def zrY:AC:=(rr [jm 22 8,jm 7 22])
def zsv:AC:=(.seq (.seq (rr [jm 19 8,jm 20 7,jv 21 (.bin .eql (.t 19) (.t 20))]) zpD) zrY)
def zim:AC:=(.block 1 (.seq (rr [jv 11 (.load (.ag [.p]) (.t 3)),jm 12 7,jm 13 1,jm 14 2,jv 15 (.bin .shl (jn 1) (.t 14)),jv 16 (.bin .or (.t 13) (.t 15)),jv 17 (.bin .and (.t 12) (.t 16)),jx 18 (.call (jf 81) [.t 11,.t 17]),jm 8 18]) zsv))
def zkW:AC:=(.seq (rr [jm 23 7,jm 24 1,jv 25 (.bin .andNot (.t 23) (.t 24)),jm 26 2,jv 27 (.bin .shl (jn 1) (.t 26)),jv 28 (.bin .andNot (.t 25) (.t 27)),jv 29 (.conv .u64 (.t 28)),jx 30 (.call (jf 29) [.t 29]),jm 6 30]) .ret)
def zn3:AC:=(.seq (.block 0 (.loop zim)) zkW)
def zsD:AC:=(.seq (rr [jm 9 2,jv 10 (.bin .shl (jn 1) (.t 9)),jm 7 10]) zn3)
def A79:AC:=(.seq (.reg [.clr [3]] [jx 3 (.box (.t 0)),jv 6 (.mov (jn 0))] []) zsD)
def ztE:List An:=[⟨0,[.clr [3]],[],[],[]⟩]
theorem c79:cq Try.prog Try.f79 ztE=some A79:=by kernel_rfl
structure H79 (D:Den) (σ:Sig) (F:Nat):Prop where
 c81:C81 (D 81) F
 g81:σ 81=some (0,false)
 c29:C29 (D 29) F
 g29:σ 29=some (0,false)
abbrev R79 (r:Int):(Nat→V)→Prop:=RR Try.prog [.tmp 6] 0 false (Enc.enc (r:Int))
section
variable {r:Int}
def wc (F:Nat) (x2:Int) (x3:Int) (x1:(S1 LI)) :Nat→Int→Option Int
 | 0,_=>none
 | k + 1,x7=>
   (WZ .i64 1 x3).bind fun q10=>
   (uJ F x1 (yu .i64 x7 (ior .i64 x2 q10))).bind fun r11=>
   bif (r11 == x7) then
    (WZ .i64 1 x3).bind fun q12=>
    (w9 F (Kd.mk (IntKind.u64.wrap (zY .i64 (zY .i64 x7 x2) q12)):Kd .u64)).bind fun r13=>
    some r13
   else
    (wc F x2 x3 x1 k) r11
theorem zh7 (H:H79 D σ F) (x2:Int) (x3:Int) (x1:(S1 LI)) :∀ (k:Nat) (x7:Int) (s:Nat→V),zu [(1,ji x2),(2,ji x3),(3,.ref (.bx 3) 0 [] (.agg [eL x1.a])),(6,ji 0),(7,ji x7)] s→wc F x2 x3 x1 k x7=some r→Run D σ (R79 r) (.run zim [.lp zim,.bk 0,.sq zkW]) s:=by
 intro k
 induction k with
 | zero=>intro x7 s _ h;exact nm h
 | succ k ih=>
   intro x7 s hs h
   rw [wc] at h
   obtain ⟨h1,h2,h3,h6,h7⟩:=hs
   refine .block (.seq (rg (g1 3 (.agg [eL x1.a]) h3 fun h11=>gm h7 fun h12=>gm h1 fun h13=>gm h2 fun h14=>?_)))
   obtain ⟨q10,Eq10,h⟩:=zc h
   refine gv (ji q10) (YF rfl h14 Eq10) fun h15=>g2 13 15 (ji (ior .i64 x2 q10)) h13 h15 fun h16=>g2 12 16 (ji (yu .i64 x7 (ior .i64 x2 q10))) h12 h16 fun h17=>?_
   obtain ⟨r11,Er11,h⟩:=zc h
   refine gcF [Enc.enc (x1:(S1 LI)),Enc.enc (yu .i64 x7 (ior .i64 x2 q10):Int)] (zh h11 rfl (Enc.erase_enc (x1:(S1 LI))) (zh h17 rfl rfl zI)) (H.c81 _ _ _ Er11) H.g81 (gm (rf (ji r11)) fun h8=>gq (.nsq (.seq (.seq (rg (gm h8 fun h19=>gm h7 fun h20=>g2 19 20 (jb (r11 == x7)) h19 h20 fun h21=>gq (.nsq (zp h21 h (fun h=>?_) (fun h=>?_)))))))))
   · refine .exit (.esq (.ebn (by decide) (.elp (.ebk (.nsq (.seq (rg (gm h7 fun h23=>gm h1 fun h24=>g2 23 24 (ji (zY .i64 x7 x2)) h23 h24 fun h25=>gm h2 fun h26=>?_))))))))
     obtain ⟨q12,Eq12,h⟩:=zc h
     refine gv (ji q12) (YF rfl h26 Eq12) fun h27=>g2 25 27 (ji (zY .i64 (zY .i64 x7 x2) q12)) h25 h27 fun h28=>g1 28 (.int .u64 (IntKind.u64.wrap (zY .i64 (zY .i64 x7 x2) q12))) h28 fun h29=>?_
     obtain ⟨r13,Er13,h⟩:=zc h
     refine gcF [Enc.enc ((Kd.mk (IntKind.u64.wrap (zY .i64 (zY .i64 x7 x2) q12)):Kd .u64):(Kd .u64))] (zh h29 rfl rfl zI) (H.c29 _ _ Er13) H.g29 (gm (rf (ji r13)) fun h6=>gq (.nsq (.ret ?_)))
     obtain rfl:=oi h
     exact rrA (zr h6) rfl
   refine .skip (.nsq (rg (gm h8 fun h22=>gm h22 fun h7=>gq (.nbk (.nlp ?_)))))
   exact ih r11 _ ⟨h1,h2,h3,h6,h7⟩ h
def wU (F:Nat) (x1:(S1 LI)) (x2:Int) (x3:Int):Option Int:=
 (WZ .i64 1 x3).bind fun q4=>
 wc F x2 x3 x1 F q4
theorem t79 (H:H79 D σ F) (x1:(S1 LI)) (x2:Int) (x3:Int) (s:Nat→V) (hs:zu [(0,.agg [eL x1.a]),(1,ji x2),(2,ji x3)] s) (h:wU F x1 x2 x3=some r):Run D σ (R79 r) (.run A79 []) s:=by
 unfold wU at h
 obtain ⟨h0,h1,h2⟩:=hs
 refine .seq (zA (zZ ?_))
 refine ez [(0,_),(1,_),(2,_),(3,_)] ⟨za h0 rfl (zH (zf me zn)),za h1 rfl mi,za h2 rfl mi,ze rfl⟩ ?_
 rintro s ⟨h0,h1,h2,h3⟩
 refine xU (.agg [eL x1.a]) (zx h0 rfl) h3 rfl (g0 (ji 0) fun h6=>gq (.nsq (.seq (rg (gm h2 fun h9=>?_)))))
 obtain ⟨q4,Eq4,h⟩:=zc h
 refine gv (ji q4) (YF rfl h9 Eq4) fun h10=>gm h10 fun h7=>gq (.nsq (.seq (.block (.loop ?_))))
 exact zh7 H x2 x3 x1 F q4 _ ⟨h1,h2,rfl,h6,h7⟩ h
end
def e79 (F:Nat):Ent:=ent 79 (fun (x:((S1 LI)×Int×Int×Unit))=>wU F x.1 x.2.1 x.2.2.1) (fun (r:Int)=>(Enc.enc (r:Int))) 0 false []
abbrev C79 (D:List V→Option V) (F:Nat):Prop:=∀ (x0:(S1 LI)) (x1:Int) (x2:Int) r,wU F x0 x1 x2=some r→D [Enc.enc x0,Enc.enc x1,Enc.enc x2]=some (Enc.enc (r:Int))
theorem p79 {F:Nat}:C79 (e79 F).den F:=fun x0 x1 x2 _ h=>zS (x0,x1,x2,()) h
theorem o79 (hF:zF Try.prog D σ) (H:H79 D σ F):(e79 F).Ok Try.prog:=okZ (f:=79) Try.func79 fun ⟨x0,x1,x2,_⟩ y hy=>cR hF Try.func79 c79 (t79 H x0 x1 x2 _ ⟨rfl,rfl,rfl⟩ hy)
def zjI:AC:=(.cond (.t 19) .skip (.exit 0))
def zbG:AC:=(.cond (.t 58) (rr [jm 59 7,jm 60 8,jm 61 11,jv 62 (.idx (.t 59) (.t 60) 1),jz (.store .s (.t 62) (.t 61))]) .skip)
def zix:AC:=(.seq (rr [jm 49 9,jv 50 (.bin .eql (.t 49) (jn 0)),jm 51 50,jg 52 51 false (.mov (.t 11)),jg 53 51 false (.mov (.t 7)),jg 54 51 false (.mov (.t 8)),jg 55 51 false (.idx (.t 53) (.t 54) 1),jg 56 51 false (.load .s (.t 55)),jg 57 51 false (.bin .lss (.t 52) (.t 56)),jv 58 (.pick (.t 51) kt (.t 57))]) zbG)
def zjS:AC:=(.seq (rr [jm 37 2,jm 38 8,jm 39 10,jx 40 (.call (.t 37) [.t 38,.t 39]),jm 41 7,jm 42 8,jm 43 10,jv 44 (.bin .shl (jn 1) (.t 43)),jv 45 (.bin .or (.t 42) (.t 44)),jv 46 (.idx (.t 41) (.t 45) 1),jl 47 46,jv 48 (.mx [.t 40,.t 47]),jm 11 48]) zix)
def MW:AC:=(rr [jv 63 (.bin .add (.t 32) (jn 1)),jm 32 63])
def zj2:AC:=(.seq (.block 3 (.seq (rr [jm 34 32,jv 35 (.idx (.t 30) (.t 32) 1),jl 36 35,jm 9 34,jm 10 36]) zjS)) MW)
def zkH:AC:=(.seq (.cond (.t 33) .skip (.exit 2)) zj2)
def XX:AC:=(.seq (rr [jv 33 (.bin .lss (.t 32) (.t 31))]) zkH)
def zjy:AC:=(.block 2 (.loop XX))
def zj5:AC:=(.seq (rr [jv 26 (.load (.ag [.p]) (.t 3)),jx 27 (.call (jf 32) [.t 26]),jm 28 8,jv 29 (.bin .andNot (.t 27) (.t 28)),jx 30 (.call (jf 34) [.t 29]),jk 31 30,jv 32 (.mov (jn 0))]) zjy)
def Un:AC:=(rr [jm 20 8,jv 21 (.bin .sub (.t 20) (jn 1)),jm 8 21])
def zkA:AC:=(.seq (.block 1 (.seq (rr [jm 22 7,jm 23 8,jm 24 1,jv 25 (.idx (.t 22) (.t 23) 1),jz (.store .s (.t 25) (.t 24))]) zj5)) Un)
def uW:AC:=(.seq (.seq (rr [jm 18 8,jv 19 (.bin .geq (.t 18) (jn 0))]) zjI) zkA)
def Z0:AC:=(.seq (.reg [] [jm 64 7,jm 6 64] [.home 7 6]) .ret)
def zhA:AC:=(.block 0 (.loop uW))
def zhf:AC:=(.seq (.seq (rr [jv 16 (.load (.ag [.p]) (.t 3)),jx 17 (.call (jf 32) [.t 16]),jm 8 17]) zhA) Z0)
def zgZ:AC:=(.seq (.reg [.clr [15]] [jv 12 (.load (.ag [.p]) (.t 3)),jx 13 (.call (jf 32) [.t 12]),jv 14 (.bin .add (.t 13) (jn 1)),jx 15 (.mk (.t 14) i0 i0),jm 7 15] [.home 15 7]) zhf)
def zlD:AC:=(.seq (.reg [.clr [3]] [jx 3 (.box (.t 0)),jv 6 (.mov (.k (.sl .nl .s 0 [])))] []) zgZ)
def znE:List An:=[⟨0,[.clr [3]],[],[],[]⟩,⟨1,[.clr [15]],[],[],[.home 15 7]⟩,⟨13,[],[],[],[.home 7 6]⟩]
theorem c78s1:cq Try.prog Try.f78 znE=some zlD:=by kernel_rfl
structure Qt (D:Den) (σ:Sig) (F:Nat):Prop where
 c32:C32 (D 32) F
 g32:σ 32=some (0,false)
 c34:C34 (D 34) F
 g34:σ 34=some (0,false)
 c79:C79 (D 79) F
 g79:σ 79=some (0,false)
abbrev JZ (r:LI):(Nat→V)→Prop:=RR Try.prog [.tmp 6] 0 false (eL r)
section
variable {r:LI}
def yM (F:Nat) (x2:Int) (x3:(Cl 79 ((S1 LI)×Unit) Unit)) (x1:(S1 LI)) (x43:Int) (r81:LI) (x93:Int) (c1:LI→Int→Option LI) (c4:LI→Int→Option LI) (x111:LI):Option LI:=
 c4 x111 (w64 (x93 + 1))
theorem Mp (H:Qt D σ F) (x2:Int) (x3:(Cl 79 ((S1 LI)×Unit) Unit)) (x1:(S1 LI)) (x43:Int) (r81:LI) (x93:Int) (c1:LI→Int→Option LI) (Hc1:∀ (x42:LI) (x43:Int) (s:Nat→V),zu [(1,ji x2),(2,.fn 79 [.agg [eL x3.fs.1.a]] []),(3,.ref (.bx 3) 0 [] (.agg [eL x1.a])),(6,nI),(7,oI 7 [] (.of x42)),(8,ji x43)] s→c1 x42 x43=some r→Run D σ (JZ r) (.run uW [.lp uW,.bk 0,.sq Z0]) s) (c4:LI→Int→Option LI) (Hc4:∀ (x92:LI) (x93:Int) (s:Nat→V),zu [(1,ji x2),(2,.fn 79 [.agg [eL x3.fs.1.a]] []),(3,.ref (.bx 3) 0 [] (.agg [eL x1.a])),(6,nI),(7,oI 7 [] (.of x92)),(8,ji x43),(30,eL r81),(31,ji (r81.length:Int)),(32,ji x93)] s→c4 x92 x93=some r→Run D σ (JZ r) (.run XX [.lp XX,.bk 2,.bk 1,.sq Un,.lp uW,.bk 0,.sq Z0]) s) (x111:LI) (s:Nat→V) (hs:zu [(1,ji x2),(2,.fn 79 [.agg [eL x3.fs.1.a]] []),(3,.ref (.bx 3) 0 [] (.agg [eL x1.a])),(6,nI),(7,oI 7 [] (.of x111)),(8,ji x43),(30,eL r81),(31,ji (r81.length:Int)),(32,ji x93)] s) (h:yM F x2 x3 x1 x43 r81 x93 c1 c4 x111=some r):Run D σ (JZ r) (.nrm [.bk 3,.sq MW,.lp XX,.bk 2,.bk 1,.sq Un,.lp uW,.bk 0,.sq Z0]) s:=by
 unfold yM at h
 obtain ⟨h1,h2,h3,h6,h7,h8,h30,h31,h32⟩:=hs
 refine .nbk (.nsq (rg (g1 32 (ji (w64 (x93 + 1))) h32 fun h63=>gm h63 fun h32=>gq (.nlp ?_))))
 exact Hc4 x111 (w64 (x93 + 1)) _ ⟨h1,h2,h3,h6,h7,h8,h30,h31,h32⟩ h
def yN (F:Nat) (x2:Int) (x3:(Cl 79 ((S1 LI)×Unit) Unit)) (x1:(S1 LI)) (x92:LI) (x43:Int) (v107:Int) (r105:Int) (r81:LI) (x93:Int) (c1:LI→Int→Option LI) (c4:LI→Int→Option LI) (x109:Bool):Option LI:=
 bif x109 then
  (idx x92 x43).bind fun v112=>
  yM F x2 x3 x1 x43 r81 x93 c1 c4 (x92.set x43.toNat (if v107 > r105 then v107 else r105))
 else
  yM F x2 x3 x1 x43 r81 x93 c1 c4 x92
theorem MZ (H:Qt D σ F) (x2:Int) (x3:(Cl 79 ((S1 LI)×Unit) Unit)) (x1:(S1 LI)) (x92:LI) (x43:Int) (v107:Int) (r105:Int) (r81:LI) (x93:Int) (c1:LI→Int→Option LI) (Hc1:∀ (x42:LI) (x43:Int) (s:Nat→V),zu [(1,ji x2),(2,.fn 79 [.agg [eL x3.fs.1.a]] []),(3,.ref (.bx 3) 0 [] (.agg [eL x1.a])),(6,nI),(7,oI 7 [] (.of x42)),(8,ji x43)] s→c1 x42 x43=some r→Run D σ (JZ r) (.run uW [.lp uW,.bk 0,.sq Z0]) s) (c4:LI→Int→Option LI) (Hc4:∀ (x92:LI) (x93:Int) (s:Nat→V),zu [(1,ji x2),(2,.fn 79 [.agg [eL x3.fs.1.a]] []),(3,.ref (.bx 3) 0 [] (.agg [eL x1.a])),(6,nI),(7,oI 7 [] (.of x92)),(8,ji x43),(30,eL r81),(31,ji (r81.length:Int)),(32,ji x93)] s→c4 x92 x93=some r→Run D σ (JZ r) (.run XX [.lp XX,.bk 2,.bk 1,.sq Un,.lp uW,.bk 0,.sq Z0]) s) (x109:Bool) (s:Nat→V) (hs:zu [(1,ji x2),(2,.fn 79 [.agg [eL x3.fs.1.a]] []),(3,.ref (.bx 3) 0 [] (.agg [eL x1.a])),(6,nI),(7,oI 7 [] (.of x92)),(8,ji x43),(11,ji (if v107 > r105 then v107 else r105)),(30,eL r81),(31,ji (r81.length:Int)),(32,ji x93),(58,jb x109)] s) (h:yN F x2 x3 x1 x92 x43 v107 r105 r81 x93 c1 c4 x109=some r):Run D σ (JZ r) (.nrm [.sq zbG,.bk 3,.sq MW,.lp XX,.bk 2,.bk 1,.sq Un,.lp uW,.bk 0,.sq Z0]) s:=by
 unfold yN at h
 obtain ⟨h1,h2,h3,h6,h7,h8,h11,h30,h31,h32,h58⟩:=hs
 refine .nsq (zp h58 h (fun h=>?_) (fun h=>?_))
 · refine rg (gm h7 fun h59=>gm h8 fun h60=>gm h11 fun h61=>?_)
   obtain ⟨v112,Ev112,h⟩:=zc h
   refine gv (.ref (.at 7 []) x43.toNat [] (ji v112)) (vZ (o:=.of x92) h59 h60 Ev112 rfl) fun h62=>z5 (ji (if v107 > r105 then v107 else r105)) (zx h62 rfl) (zx h61 rfl) (xE (by first | rfl | simp [V.toks,V.tokss,Enc.toks_enc,zX])) ?_
   refine gz [(1,ji x2),(2,.fn 79 [.agg [eL x3.fs.1.a]] []),(3,.ref (.bx 3) 0 [] (.agg [eL x1.a])),(6,nI),(7,_),(8,ji x43),(30,eL r81),(31,ji (r81.length:Int)),(32,ji x93)] ⟨zd h1 rfl,zd h2 (zaa (zq (yx (zq uE rfl)) rfl) rfl),zd h3 (zy rfl rfl (yx (zq uE rfl))),zd h6 rfl,zd h7 Kb,zd h8 rfl,zd h30 uE,zd h31 rfl,zd h32 rfl⟩ ?_
   rintro s ⟨h1,h2,h3,h6,h7,h8,h30,h31,h32⟩
   exact Mp H x2 x3 x1 x43 r81 x93 c1 Hc1 c4 Hc4 (x92.set x43.toNat (if v107 > r105 then v107 else r105)) _ ⟨h1,h2,h3,h6,h7,h8,h30,h31,h32⟩ h
 refine .skip ?_
 exact Mp H x2 x3 x1 x43 r81 x93 c1 Hc1 c4 Hc4 x92 _ ⟨h1,h2,h3,h6,h7,h8,h30,h31,h32⟩ h
def zO (F:Nat) (x2:Int) (x3:(Cl 79 ((S1 LI)×Unit) Unit)) (x1:(S1 LI)) (x43:Int) (r81:LI) (c1:LI→Int→Option LI):Nat→LI→Int→Option LI
 | 0,_,_=>none
 | k + 1,x92,x93=>
   bif decide (x93 < (r81.length:Int)) then
    (idx r81 x93).bind fun v104=>
    (wU F x3.fs.1 x43 v104).bind fun r105=>
    (WZ .i64 1 v104).bind fun q106=>
    (idx x92 (ior .i64 x43 q106)).bind fun v107=>
    bif (x93 == 0) then
     yN F x2 x3 x1 x92 x43 v107 r105 r81 x93 c1 (zO F x2 x3 x1 x43 r81 c1 k) true
    else
     (idx x92 x43).bind fun v113=>
     yN F x2 x3 x1 x92 x43 v107 r105 r81 x93 c1 (zO F x2 x3 x1 x43 r81 c1 k) (decide ((if v107 > r105 then v107 else r105) < v113))
   else
    c1 x92 (w64 (x43 - 1))
theorem zdC (H:Qt D σ F) (x2:Int) (x3:(Cl 79 ((S1 LI)×Unit) Unit)) (x1:(S1 LI)) (x43:Int) (r81:LI) (c1:LI→Int→Option LI) (Hc1:∀ (x42:LI) (x43:Int) (s:Nat→V),zu [(1,ji x2),(2,.fn 79 [.agg [eL x3.fs.1.a]] []),(3,.ref (.bx 3) 0 [] (.agg [eL x1.a])),(6,nI),(7,oI 7 [] (.of x42)),(8,ji x43)] s→c1 x42 x43=some r→Run D σ (JZ r) (.run uW [.lp uW,.bk 0,.sq Z0]) s):∀ (k:Nat) (x92:LI) (x93:Int) (s:Nat→V),zu [(1,ji x2),(2,.fn 79 [.agg [eL x3.fs.1.a]] []),(3,.ref (.bx 3) 0 [] (.agg [eL x1.a])),(6,nI),(7,oI 7 [] (.of x92)),(8,ji x43),(30,eL r81),(31,ji (r81.length:Int)),(32,ji x93)] s→zO F x2 x3 x1 x43 r81 c1 k x92 x93=some r→Run D σ (JZ r) (.run XX [.lp XX,.bk 2,.bk 1,.sq Un,.lp uW,.bk 0,.sq Z0]) s:=by
 intro k
 induction k with
 | zero=>intro x92 x93 s _ h;exact nm h
 | succ k ih=>
   intro x92 x93 s hs h
   rw [zO] at h
   obtain ⟨h1,h2,h3,h6,h7,h8,h30,h31,h32⟩:=hs
   refine .seq (rg (g2 32 31 (jb (decide (x93 < (r81.length:Int)))) h32 h31 fun h33=>gq (.nsq (.seq (zp h33 h (fun h=>?_) (fun h=>?_))))))
   · refine .skip (.nsq (.seq (.block (.seq (rg (gm h32 fun h34=>?_))))))
     obtain ⟨v104,Ev104,h⟩:=zc h
     refine gv (.ref .sh 0 [] (ji v104)) (yV (t:=.sh) (lo:=0) (xs:=r81) h30 h32 Ev104 rfl rfl) fun h35=>g1 35 (ji v104) h35 fun h36=>gm h34 fun h9=>gm h36 fun h10=>gq (.nsq (.seq (rg (gm h2 fun h37=>gm h8 fun h38=>gm h10 fun h39=>?_))))
     obtain ⟨r105,Er105,h⟩:=zc h
     refine LY (m:=0) (al:=false) (r:=Enc.enc (r105:Int)) (fs:=[.agg [eL x3.fs.1.a]]) (env:=[]) (us:=[Enc.enc (x3.fs.1:(S1 LI))]) (ws:=[]) h37 (xD (Enc.erase_enc (x3.fs.1:(S1 LI))) xx) xx rfl [Enc.enc (x43:Int),Enc.enc (v104:Int)] (zh h38 rfl rfl (zh h39 rfl rfl zI)) (H.c79 _ _ _ _ Er105) H.g79 rfl rfl rfl rfl (gm h7 fun h41=>gm h8 fun h42=>gm h10 fun h43=>?_)
     obtain ⟨q106,Eq106,h⟩:=zc h
     refine gv (ji q106) (YF rfl h43 Eq106) fun h44=>g2 42 44 (ji (ior .i64 x43 q106)) h42 h44 fun h45=>?_
     obtain ⟨v107,Ev107,h⟩:=zc h
     refine gv (.ref (.at 7 []) ((ior .i64 x43 q106).toNat) [] (ji v107)) (vZ (o:=.of x92) h41 h45 Ev107 rfl) fun h46=>g1 46 (ji v107) h46 fun h47=>g2 40 47 (ji (if v107 > r105 then v107 else r105)) (rf (ji r105)) h47 fun h48=>gm h48 fun h11=>gq (.nsq (.seq (rg (gm h9 fun h49=>g1 49 (jb (x93 == 0)) h49 fun h50=>gm h50 fun h51=>yj h (fun hg3 h=>?_) (fun hg3 h=>?_)))))
     · iterate 6 refine yY (ct h51 hg3) ?_
       refine g2 51 57 (jb true) (ct h51 hg3) (rf (.tup [])) fun h58=>gz [(1,_),(2,_),(3,_),(6,_),(7,_),(8,_),(11,_),(30,_),(31,_),(32,_),(58,_)] ⟨h1,h2,h3,h6,h7,h8,h11,h30,h31,h32,h58⟩ ?_
       rintro s ⟨h1,h2,h3,h6,h7,h8,h11,h30,h31,h32,h58⟩
       exact MZ H x2 x3 x1 x92 x43 v107 r105 r81 x93 c1 Hc1 (zO F x2 x3 x1 x43 r81 c1 k) ih true _ ⟨h1,h2,h3,h6,h7,h8,h11,h30,h31,h32,h58⟩ h
     refine zt (ct h51 hg3) (gm h11 fun h52=>zt (ct h51 hg3) (gm h7 fun h53=>zt (ct h51 hg3) (gm h8 fun h54=>?_)))
     obtain ⟨v113,Ev113,h⟩:=zc h
     refine zt (ct h51 hg3) (gv (.ref (.at 7 []) x43.toNat [] (ji v113)) (vZ (o:=.of x92) h53 h54 Ev113 rfl) fun h55=>zt (ct h51 hg3) (g1 55 (ji v113) h55 fun h56=>zt (ct h51 hg3) (g2 52 56 (jb (decide ((if v107 > r105 then v107 else r105) < v113))) h52 h56 fun h57=>g2 51 57 (jb (decide ((if v107 > r105 then v107 else r105) < v113))) (ct h51 hg3) h57 fun h58=>gz [(1,_),(2,_),(3,_),(6,_),(7,_),(8,_),(11,_),(30,_),(31,_),(32,_),(58,_)] ⟨h1,h2,h3,h6,h7,h8,h11,h30,h31,h32,h58⟩ ?_)))
     rintro s ⟨h1,h2,h3,h6,h7,h8,h11,h30,h31,h32,h58⟩
     exact MZ H x2 x3 x1 x92 x43 v107 r105 r81 x93 c1 Hc1 (zO F x2 x3 x1 x43 r81 c1 k) ih (decide ((if v107 > r105 then v107 else r105) < v113)) _ ⟨h1,h2,h3,h6,h7,h8,h11,h30,h31,h32,h58⟩ h
   refine .exit (.esq (.elp (.ebk (.nbk (.nsq (rg (gm h8 fun h20=>g1 20 (ji (w64 (x43 - 1))) h20 fun h21=>gm h21 fun h8=>gq (.nlp ?_))))))))
   exact Hc1 x92 (w64 (x43 - 1)) _ ⟨h1,h2,h3,h6,h7,h8⟩ h
def zK (F:Nat) (x2:Int) (x3:(Cl 79 ((S1 LI)×Unit) Unit)) (x1:(S1 LI)) :Nat→LI→Int→Option LI
 | 0,_,_=>none
 | k + 1,x42,x43=>
   bif decide (x43≥0) then
    (idx x42 x43).bind fun v79=>
    (xr F x1).bind fun r80=>
    (uH F (zY .i64 r80 x43)).bind fun r81=>
    zO F x2 x3 x1 x43 r81 (zK F x2 x3 x1 k) F (x42.set x43.toNat x2) 0
   else
    some x42
theorem zdy (H:Qt D σ F) (x2:Int) (x3:(Cl 79 ((S1 LI)×Unit) Unit)) (x1:(S1 LI)) :∀ (k:Nat) (x42:LI) (x43:Int) (s:Nat→V),zu [(1,ji x2),(2,.fn 79 [.agg [eL x3.fs.1.a]] []),(3,.ref (.bx 3) 0 [] (.agg [eL x1.a])),(6,nI),(7,oI 7 [] (.of x42)),(8,ji x43)] s→zK F x2 x3 x1 k x42 x43=some r→Run D σ (JZ r) (.run uW [.lp uW,.bk 0,.sq Z0]) s:=by
 intro k
 induction k with
 | zero=>intro x42 x43 s _ h;exact nm h
 | succ k ih=>
   intro x42 x43 s hs h
   rw [zK] at h
   obtain ⟨h1,h2,h3,h6,h7,h8⟩:=hs
   refine .seq (.seq (rg (gm h8 fun h18=>g1 18 (jb (decide (x43≥0))) h18 fun h19=>gq (.nsq (zp h19 h (fun h=>?_) (fun h=>?_))))))
   · refine .skip (.nsq (.seq (.block (.seq (rg (gm h7 fun h22=>gm h8 fun h23=>gm h1 fun h24=>?_))))))
     obtain ⟨v79,Ev79,h⟩:=zc h
     refine gv (.ref (.at 7 []) x43.toNat [] (ji v79)) (vZ (o:=.of x42) h22 h23 Ev79 rfl) fun h25=>z5 (ji x2) (zx h25 rfl) (zx h24 rfl) (xE (by first | rfl | simp [V.toks,V.tokss,Enc.toks_enc,zX])) (gz [(1,ji x2),(2,.fn 79 [.agg [eL x3.fs.1.a]] []),(3,.ref (.bx 3) 0 [] (.agg [eL x1.a])),(6,nI),(7,_),(8,ji x43)] ⟨zd h1 rfl,zd h2 (zaa (zq (yx (zq uE rfl)) rfl) rfl),zd h3 (zy rfl rfl (yx (zq uE rfl))),zd h6 rfl,zd h7 Kb,zd h8 rfl⟩ ?_)
     rintro s ⟨h1,h2,h3,h6,h7,h8⟩
     refine .nsq (.seq (rg (g1 3 (.agg [eL x1.a]) h3 fun h26=>?_)))
     obtain ⟨r80,Er80,h⟩:=zc h
     refine gcF [Enc.enc (x1:(S1 LI))] (zh h26 rfl (Enc.erase_enc (x1:(S1 LI))) zI) (H.c32 _ _ Er80) H.g32 (gm h8 fun h28=>g2 27 28 (ji (zY .i64 r80 x43)) (rf (ji r80)) h28 fun h29=>?_)
     obtain ⟨r81,Er81,h⟩:=zc h
     refine gcF [Enc.enc (zY .i64 r80 x43:Int)] (zh h29 rfl rfl zI) (H.c34 _ _ Er81) H.g34 (gl r81 rfl fun h31=>g0 (ji 0) fun h32=>gq (.nsq (.block (.loop ?_))))
     exact zdC H x2 x3 x1 x43 r81 (zK F x2 x3 x1 k) ih F (x42.set x43.toNat x2) 0 _ ⟨h1,h2,h3,h6,h7,h8,rfl,h31,h32⟩ h
   refine .exit (.esq (.elp (.ebk (.nsq (.seq (rg (gm h7 fun h64=>gm h64 fun h6=>xo (y0 (r:=7) (x:=6) (v:=_) h6 rfl (fun s4 hz4=>?_)))))))))
   refine ez [(6,oI 6 [] (.of x42))] (hz4 6 _ _ h6 (zo (r:=7) (p:=[]) rfl rfl)) ?_
   rintro s h6
   refine .nsq (.ret ?_)
   obtain rfl:=oi h
   exact rrA (zr h6) (wP (vk (o:=.of x42)) (xI rfl))
def yn (F:Nat) (x1:(S1 LI)) (x2:Int) (x3:(Cl 79 ((S1 LI)×Unit) Unit)):Option LI:=
 (xr F x1).bind fun r4=>
 (mkN (w64 (r4 + 1)) (0:Int)).bind fun mk5=>
 (xr F x1).bind fun r6=>
 zK F x2 x3 x1 F mk5 r6
theorem zoV (H:Qt D σ F) (x1:(S1 LI)) (x2:Int) (x3:(Cl 79 ((S1 LI)×Unit) Unit)) (s:Nat→V) (hs:zu [(0,.agg [eL x1.a]),(1,ji x2),(2,.fn 79 [.agg [eL x3.fs.1.a]] [])] s) (h:yn F x1 x2 x3=some r):Run D σ (JZ r) (.run zlD []) s:=by
 unfold yn at h
 obtain ⟨h0,h1,h2⟩:=hs
 refine .seq (zA (zZ ?_))
 refine ez [(0,_),(1,_),(2,_),(3,_)] ⟨za h0 rfl (zH (zf me zn)),za h1 rfl mi,za h2 rfl (Ji (zf (zH (zf me zn)) zn) zn),ze rfl⟩ ?_
 rintro s ⟨h0,h1,h2,h3⟩
 refine xU (.agg [eL x1.a]) (zx h0 rfl) h3 rfl (g0 nI fun h6=>gq (.nsq (.seq (zA (zZ ?_)))))
 refine ez [(1,_),(2,_),(3,_),(6,_),(15,_)] ⟨za h1 rfl mi,za h2 rfl (Ji (zf (zH (zf me zn)) zn) zn),za rfl rfl (zi rfl (zH (zf me zn))),za h6 rfl rfl,ze rfl⟩ ?_
 rintro s ⟨h1,h2,h3,h6,h15⟩
 refine g1 3 (.agg [eL x1.a]) h3 fun h12=>?_
 obtain ⟨r4,Er4,h⟩:=zc h
 refine gcF [Enc.enc (x1:(S1 LI))] (zh h12 rfl (Enc.erase_enc (x1:(S1 LI))) zI) (H.c32 _ _ Er4) H.g32 (g1 13 (ji (w64 (r4 + 1))) (rf (ji r4)) fun h14=>?_)
 obtain ⟨mk5,Emk5,h⟩:=zc h
 refine zph (0:Int) h14 rfl h15 Emk5 (gm (rf (oI 15 [] (.of mk5))) fun h7=>xo (y0 (r:=15) (x:=7) (v:=_) h7 rfl (fun s3 hz3=>?_)))
 refine ez [(1,ji x2),(2,.fn 79 [.agg [eL x3.fs.1.a]] []),(3,.ref (.bx 3) 0 [] (.agg [eL x1.a])),(6,nI),(7,oI 7 [] (.of mk5))] ⟨hz3 1 _ _ h1 mi,hz3 2 _ _ h2 (Ji (zf (zH (zf me zn)) zn) zn),hz3 3 _ _ h3 (zi rfl (zH (zf me zn))),hz3 6 _ _ h6 rfl,hz3 7 _ _ h7 (zo (r:=15) (p:=[]) rfl rfl)⟩ ?_
 rintro s ⟨h1,h2,h3,h6,h7⟩
 refine .nsq (.seq (.seq (rg (g1 3 (.agg [eL x1.a]) h3 fun h16=>?_))))
 obtain ⟨r6,Er6,h⟩:=zc h
 refine gcF [Enc.enc (x1:(S1 LI))] (zh h16 rfl (Enc.erase_enc (x1:(S1 LI))) zI) (H.c32 _ _ Er6) H.g32 (gm (rf (ji r6)) fun h8=>gq (.nsq (.block (.loop ?_))))
 exact zdy H x2 x3 x1 F mk5 r6 _ ⟨h1,h2,h3,h6,h7,h8⟩ h
end
def zgD (F:Nat):Ent:=ent 78 (fun (x:((S1 LI)×Int×(Cl 79 ((S1 LI)×Unit) Unit)×Unit))=>yn F x.1 x.2.1 x.2.2.1) (fun (r:LI)=>(eL r)) 0 false [(2,79)]
abbrev zk0 (D:List V→Option V) (F:Nat):Prop:=∀ (x0:(S1 LI)) (x1:Int) (x2:(Cl 79 ((S1 LI)×Unit) Unit)) r,yn F x0 x1 x2=some r→D [Enc.enc x0,Enc.enc x1,Arg.arg x2]=some (eL r)
theorem zrh {F:Nat}:zk0 (zgD F).den F:=fun x0 x1 x2 _ h=>zS (x0,x1,x2,()) h
theorem znY (hF:zF Try.prog D σ) (H:Qt D σ F):(zgD F).Ok Try.prog:=okZ (f:=78) Try.func78 fun ⟨x0,x1,x2,_⟩ y hy=>cR hF Try.func78 c78s1 (zoV H x0 x1 x2 _ ⟨rfl,rfl,rfl⟩ hy)
def zpM:AC:=(.seq (rr [jv 3 (.load (.ag [.p]) (.t 1)),jv 4 (.load (.ag [.p]) (.t 1)),jv 5 (.fn 79 [.t 4] []),jx 6 (.call (jf 78) [.t 3,jn (-1),.t 5]),jm 2 6]) .ret)
def A69:AC:=(.seq (.reg [.clr [1]] [jx 1 (.box (.t 0)),jv 2 (.mov (.k (.sl .nl .s 0 [])))] []) zpM)
def ztX:List An:=[⟨0,[.clr [1]],[],[],[]⟩]
theorem c69:cq Try.prog Try.f69 ztX=some A69:=by kernel_rfl
structure H69 (D:Den) (σ:Sig) (F:Nat):Prop where
 c78s1:zk0 (D 78) F
 g78s1:σ 78=some (0,false)
abbrev R69 (r:LI):(Nat→V)→Prop:=RR Try.prog [.tmp 2] 0 true (eL r)
section
variable {r:LI}
def vj (F:Nat) (x1:(S1 LI)):Option LI:=
 (yn F x1 (-1) (Cl.mk (x1,()) ():(Cl 79 ((S1 LI)×Unit) Unit))).bind fun r2=>
 some r2
theorem t69 (H:H69 D σ F) (x1:(S1 LI)) (s:Nat→V) (hs:zu [(0,.agg [eL x1.a])] s) (h:vj F x1=some r):Run D σ (R69 r) (.run A69 []) s:=by
 unfold vj at h
 have h0:=hs
 refine .seq (zA (zZ ?_))
 refine ez [(0,_),(1,_)] ⟨za h0 rfl (zH (zf me zn)),ze rfl⟩ ?_
 rintro s ⟨h0,h1⟩
 refine xU (.agg [eL x1.a]) (zx h0 rfl) h1 rfl (g0 nI fun h2=>gq (.nsq (.seq (rg (g1 1 (.agg [eL x1.a]) (rf (.ref (.bx 1) 0 [] (.agg [eL x1.a]))) fun h3=>g1 1 (.agg [eL x1.a]) (rf (.ref (.bx 1) 0 [] (.agg [eL x1.a]))) fun h4=>g1 4 (.fn 79 [.agg [eL x1.a]] []) h4 fun h5=>?_)))))
 obtain ⟨r2,Er2,h⟩:=zc h
 refine gcF [Enc.enc (x1:(S1 LI)),Enc.enc ((-1):Int),Arg.arg ((Cl.mk (x1,()) ():(Cl 79 ((S1 LI)×Unit) Unit)):(Cl 79 ((S1 LI)×Unit) Unit))] (zh h3 rfl (Enc.erase_enc (x1:(S1 LI))) (zh (v:=ji (-1)) rfl rfl rfl (zh h5 rfl (Jg (xD (Enc.erase_enc (x1:(S1 LI))) xx) xx) zI))) (H.c78s1 _ _ _ _ Er2) H.g78s1 (gm (rf (eL r2)) fun h2=>gq (.nsq (.ret ?_)))
 obtain rfl:=oi h
 exact rrA (zr h2) (YU (wx (x:=(r2:LI))))
end
def e69 (F:Nat):Ent:=ent 69 (fun (x:((S1 LI)×Unit))=>vj F x.1) (fun (r:LI)=>(eL r)) 0 true []
abbrev C69 (D:List V→Option V) (F:Nat):Prop:=∀ (x0:(S1 LI)) r,vj F x0=some r→D [Enc.enc x0]=some (eL r)
theorem p69 {F:Nat}:C69 (e69 F).den F:=fun x0 _ h=>zS (x0,()) h
theorem o69 (hF:zF Try.prog D σ) (H:H69 D σ F):(e69 F).Ok Try.prog:=okZ (f:=69) Try.func69 fun ⟨x0,_⟩ y hy=>cR hF Try.func69 c69 (t69 H x0 _ rfl hy)
def zqJ:AC:=(.seq (rr [jv 3 (.load (.ag [.p]) (.t 1)),jx 4 (.call (jf 69) [.t 3]),jv 5 (.idx (.t 4) (jn 0) 1),jl 6 5,jm 2 6]) .ret)
def A43:AC:=(.seq (.reg [.clr [1]] [jx 1 (.box (.t 0)),jv 2 (.mov (jn 0))] []) zqJ)
def zte:List An:=[⟨0,[.clr [1]],[],[],[]⟩]
theorem c43:cq Try.prog Try.f43 zte=some A43:=by kernel_rfl
structure H43 (D:Den) (σ:Sig) (F:Nat):Prop where
 c69:C69 (D 69) F
 g69:σ 69=some (0,true)
abbrev R43 (r:Int):(Nat→V)→Prop:=RR Try.prog [.tmp 2] 0 false (Enc.enc (r:Int))
section
variable {r:Int}
def wL (F:Nat) (x1:(S1 LI)):Option Int:=
 (vj F x1).bind fun r2=>
 (idx r2 0).bind fun v3=>
 some v3
theorem t43 (H:H43 D σ F) (x1:(S1 LI)) (s:Nat→V) (hs:zu [(0,.agg [eL x1.a])] s) (h:wL F x1=some r):Run D σ (R43 r) (.run A43 []) s:=by
 unfold wL at h
 have h0:=hs
 refine .seq (zA (zZ ?_))
 refine ez [(0,_),(1,_)] ⟨za h0 rfl (zH (zf me zn)),ze rfl⟩ ?_
 rintro s ⟨h0,h1⟩
 refine xU (.agg [eL x1.a]) (zx h0 rfl) h1 rfl (g0 (ji 0) fun h2=>gq (.nsq (.seq (rg (g1 1 (.agg [eL x1.a]) (rf (.ref (.bx 1) 0 [] (.agg [eL x1.a]))) fun h3=>?_)))))
 obtain ⟨r2,Er2,h⟩:=zc h
 refine UA (m:=0) (al:=true) (r:=eL r2) [Enc.enc (x1:(S1 LI))] (zh h3 rfl (Enc.erase_enc (x1:(S1 LI))) zI) (H.c69 _ _ Er2) H.g69 (Jl (Z4 (v:=.agg [eL x1.a]) h3 rfl rfl UW)) rfl rfl rfl ?_
 obtain ⟨v3,Ev3,h⟩:=zc h
 refine gv (.ref .sh 0 [] (ji v3)) (yV (t:=.sh) (lo:=0) (xs:=r2) rfl rfl Ev3 rfl rfl) fun h5=>g1 5 (ji v3) h5 fun h6=>gm h6 fun h2=>gq (.nsq (.ret ?_))
 obtain rfl:=oi h
 exact rrA (zr h2) rfl
end
def e43 (F:Nat):Ent:=ent 43 (fun (x:((S1 LI)×Unit))=>wL F x.1) (fun (r:Int)=>(Enc.enc (r:Int))) 0 false []
abbrev C43 (D:List V→Option V) (F:Nat):Prop:=∀ (x0:(S1 LI)) r,wL F x0=some r→D [Enc.enc x0]=some (Enc.enc (r:Int))
theorem p43 {F:Nat}:C43 (e43 F).den F:=fun x0 _ h=>zS (x0,()) h
theorem o43 (hF:zF Try.prog D σ) (H:H43 D σ F):(e43 F).Ok Try.prog:=okZ (f:=43) Try.func43 fun ⟨x0,_⟩ y hy=>cR hF Try.func43 c43 (t43 H x0 _ rfl hy)
def zqH:AC:=(.cond (.t 6) (.seq (rr [jv 2 (.mov (jn 0)),jv 3 (.mov kf)]) .ret) .skip)
def zp0:AC:=(.seq (rr [jv 7 (.load (.ag [.s,.p]) (.t 1)),jx 8 (.call (jf 23) [.t 7]),jx 9 (.call (jf 43) [.t 8]),jm 2 9,jv 3 (.mov kt)]) .ret)
def zqx:AC:=(.seq (.seq (rr [jv 4 (.load (.ag [.s,.p]) (.t 1)),jx 5 (.call (jf 21) [.t 4]),jv 6 (.un .not (.t 5))]) zqH) zp0)
def A17:AC:=(.seq (.reg [.clr [1]] [jx 1 (.box (.t 0)),jv 2 (.mov (jn 0)),jv 3 (.mov kf)] []) zqx)
def zuz:List An:=[⟨0,[.clr [1]],[],[],[]⟩]
theorem c17:cq Try.prog Try.f17 zuz=some A17:=by kernel_rfl
structure H17 (D:Den) (σ:Sig) (F:Nat):Prop where
 c21:C21 (D 21) F
 g21:σ 21=some (0,false)
 c23:C23 (D 23) F
 g23:σ 23=some (0,false)
 c43:C43 (D 43) F
 g43:σ 43=some (0,false)
abbrev R17 (r:(Int×Bool)):(Nat→V)→Prop:=RR Try.prog [.tmp 2,.tmp 3] 0 false (.tup [Enc.enc (r.1:Int),Enc.enc (r.2:Bool)])
section
variable {r:(Int×Bool)}
def uf (F:Nat) (x1:GR):Option (Int×Bool):=
 (vy F x1).bind fun r2=>
 bif (!r2) then
  some (0,false)
 else
  (ZO F x1).bind fun r3=>
  (wL F r3).bind fun r4=>
  some (r4,true)
theorem t17 (H:H17 D σ F) (x1:GR) (s:Nat→V) (hs:zu [(0,gV x1)] s) (h:uf F x1=some r):Run D σ (R17 r) (.run A17 []) s:=by
 unfold uf at h
 have h0:=hs
 refine .seq (zA (zZ ?_))
 refine ez [(0,_),(1,_)] ⟨za h0 rfl mIE,ze rfl⟩ ?_
 rintro s ⟨h0,h1⟩
 refine xU (gV x1) (zx h0 rfl) h1 rfl (g0 (ji 0) fun h2=>g0 (jb false) fun h3=>gq (.nsq (.seq (.seq (rg (g1 1 (gV x1) (rf (bG 1 x1)) fun h4=>?_))))))
 obtain ⟨r2,Er2,h⟩:=zc h
 refine gcF [Enc.enc (x1:GR)] (zh h4 rfl (Enc.erase_enc (x1:GR)) zI) (H.c21 _ _ Er2) H.g21 (g1 5 (jb (!r2)) (rf (jb r2)) fun h6=>gq (.nsq (zp h6 h (fun h=>?_) (fun h=>?_))))
 · refine .seq (rg (g0 (ji 0) fun h2=>g0 (jb false) fun h3=>gq (.nsq (.ret ?_))))
   obtain rfl:=oi h
   exact rrB (zr h2) (zr h3) rfl
 refine .skip (.nsq (.seq (rg (g1 1 (gV x1) (rf (bG 1 x1)) fun h7=>?_))))
 obtain ⟨r3,Er3,h⟩:=zc h
 refine gcF [Enc.enc (x1:GR)] (zh h7 rfl (Enc.erase_enc (x1:GR)) zI) (H.c23 _ _ Er3) H.g23 ?_
 obtain ⟨r4,Er4,h⟩:=zc h
 refine gcF [Enc.enc (r3:(S1 LI))] (zh (v:=.agg [eL r3.a]) rfl rfl (Enc.erase_enc (r3:(S1 LI))) zI) (H.c43 _ _ Er4) H.g43 (gm (rf (ji r4)) fun h2=>g0 (jb true) fun h3=>gq (.nsq (.ret ?_)))
 obtain rfl:=oi h
 exact rrB (zr h2) (zr h3) rfl
end
def e17 (F:Nat):Ent:=ent 17 (fun (x:(GR×Unit))=>uf F x.1) (fun (r:(Int×Bool))=>(.tup [Enc.enc (r.1:Int),Enc.enc (r.2:Bool)])) 0 false []
abbrev C17 (D:List V→Option V) (F:Nat):Prop:=∀ (x0:GR) r,uf F x0=some r→D [Enc.enc x0]=some (.tup [Enc.enc (r.1:Int),Enc.enc (r.2:Bool)])
theorem p17 {F:Nat}:C17 (e17 F).den F:=fun x0 _ h=>zS (x0,()) h
theorem o17 (hF:zF Try.prog D σ) (H:H17 D σ F):(e17 F).Ok Try.prog:=okZ (f:=17) Try.func17 fun ⟨x0,_⟩ y hy=>cR hF Try.func17 c17 (t17 H x0 _ rfl hy)
def zpe:AC:=(.cond (.t 15) .skip (.exit 0))
def zlb:AC:=(.cond (.t 37) (.seq (rr [jv 6 (.mov kt)]) .ret) .skip)
def zlx:AC:=(rr [jm 16 7,jv 17 (.bin .add (.t 16) (jn 1)),jm 7 17])
def zsz:AC:=(.seq (.block 1 (.seq (rr [jv 18 (.fld (.t 3) 1 1),jv 19 (.load .p (.t 18)),jm 20 7,jv 21 (.idx (.t 19) (.t 20) 2),jv 22 (.load (.ag [.s,.s]) (.t 21)),jm 23 1,jm 24 2,jv 25 (.bld (.agg [i0,i0]) [(0,0,.t 23),(1,1,.t 24)]),jv 26 (.eqP false (.t 22) (.t 25)),jm 27 26,jg 28 27 false (.fld (.t 3) 1 1),jg 29 27 false (.load .p (.t 28)),jg 30 27 false (.mov (.t 7)),jg 31 27 false (.idx (.t 29) (.t 30) 2),jg 32 27 false (.load (.ag [.s,.s]) (.t 31)),jg 33 27 false (.mov (.t 2)),jg 34 27 false (.mov (.t 1)),jg 35 27 false (.bld (.agg [i0,i0]) [(0,0,.t 33),(1,1,.t 34)]),jg 36 27 false (.eqP false (.t 32) (.t 35)),jv 37 (.pick (.t 27) kt (.t 36))]) zlb)) zlx)
def N1:AC:=(.seq (.seq (rr [jm 11 7,jv 12 (.fld (.t 3) 1 1),jv 13 (.load .p (.t 12)),jk 14 13,jv 15 (.bin .lss (.t 11) (.t 14))]) zpe) zsz)
def zdU:AC:=(.seq (rr [jv 6 (.mov kf)]) .ret)
def zsY:AC:=(.cond (.t 10) (.seq (rr [jv 6 (.mov kt)]) .ret) .skip)
def zmR:AC:=(.block 0 (.loop N1))
def zp6:AC:=(.seq (.seq (rr [jv 7 (.mov (jn 0))]) zmR) zdU)
def zoK:AC:=(.seq (.seq (rr [jm 8 1,jm 9 2,jv 10 (.bin .eql (.t 8) (.t 9))]) zsY) zp6)
def A18:AC:=(.seq (.reg [.clr [3]] [jx 3 (.box (.t 0)),jv 6 (.mov kf)] []) zoK)
def zuZ:List An:=[⟨0,[.clr [3]],[],[],[]⟩]
theorem c18:cq Try.prog Try.f18 zuZ=some A18:=by kernel_rfl
structure H18 (D:Den) (σ:Sig) (F:Nat):Prop where
 mk ::
abbrev R18 (r:Bool):(Nat→V)→Prop:=RR Try.prog [.tmp 6] 0 false (Enc.enc (r:Bool))
section
variable {r:Bool}
def Wz (F:Nat) (x2:Int) (x3:Int) (x1:GR) (x9:Int) (c1:Int→Option Bool) (x17:Bool):Option Bool:=
 bif x17 then
  some true
 else
  c1 (w64 (x9 + 1))
theorem zbN (H:H18 D σ F) (x2:Int) (x3:Int) (x1:GR) (x9:Int) (c1:Int→Option Bool) (Hc1:∀ (x9:Int) (s:Nat→V),zu [(1,ji x2),(2,ji x3),(3,bG 3 x1),(6,jb false),(7,ji x9)] s→c1 x9=some r→Run D σ (R18 r) (.run N1 [.lp N1,.bk 0,.sq zdU]) s) (x17:Bool) (s:Nat→V) (hs:zu [(1,ji x2),(2,ji x3),(3,bG 3 x1),(6,jb false),(7,ji x9),(37,jb x17)] s) (h:Wz F x2 x3 x1 x9 c1 x17=some r):Run D σ (R18 r) (.nrm [.sq zlb,.bk 1,.sq zlx,.lp N1,.bk 0,.sq zdU]) s:=by
 unfold Wz at h
 obtain ⟨h1,h2,h3,h6,h7,h37⟩:=hs
 refine .nsq (zp h37 h (fun h=>?_) (fun h=>?_))
 · refine .seq (rg (g0 (jb true) fun h6=>gq (.nsq (.ret ?_))))
   obtain rfl:=oi h
   exact rrA (zr h6) rfl
 refine .skip (.nbk (.nsq (rg (gm h7 fun h16=>g1 16 (ji (w64 (x9 + 1))) h16 fun h17=>gm h17 fun h7=>gq (.nlp ?_)))))
 exact Hc1 (w64 (x9 + 1)) _ ⟨h1,h2,h3,h6,h7⟩ h
def ug (F:Nat) (x2:Int) (x3:Int) (x1:GR) :Nat→Int→Option Bool
 | 0,_=>none
 | k + 1,x9=>
   bif decide (x9 < (x1.2.length:Int)) then
    (idx x1.2 x9).bind fun v18=>
    bif (v18.1 == x2 && v18.2 == x3) then
     Wz F x2 x3 x1 x9 (ug F x2 x3 x1 k) true
    else
     (idx x1.2 x9).bind fun v19=>
     Wz F x2 x3 x1 x9 (ug F x2 x3 x1 k) (v19.1 == x3 && v19.2 == x2)
   else
    some false
theorem zha (H:H18 D σ F) (x2:Int) (x3:Int) (x1:GR) :∀ (k:Nat) (x9:Int) (s:Nat→V),zu [(1,ji x2),(2,ji x3),(3,bG 3 x1),(6,jb false),(7,ji x9)] s→ug F x2 x3 x1 k x9=some r→Run D σ (R18 r) (.run N1 [.lp N1,.bk 0,.sq zdU]) s:=by
 intro k
 induction k with
 | zero=>intro x9 s _ h;exact nm h
 | succ k ih=>
   intro x9 s hs h
   rw [ug] at h
   obtain ⟨h1,h2,h3,h6,h7⟩:=hs
   refine .seq (.seq (rg (gm h7 fun h11=>g1 3 (.ref (.bx 3) 0 [1] (eP x1.2)) h3 fun h12=>g1 12 (eP x1.2) h12 fun h13=>gl x1.2 h13 fun h14=>g2 11 14 (jb (decide (x9 < (x1.2.length:Int)))) h11 h14 fun h15=>gq (.nsq (zp h15 h (fun h=>?_) (fun h=>?_))))))
   · refine .skip (.nsq (.seq (.block (.seq (rg (g1 3 (.ref (.bx 3) 0 [1] (eP x1.2)) h3 fun h18=>g1 18 (eP x1.2) h18 fun h19=>gm h7 fun h20=>?_))))))
     obtain ⟨v18,Ev18,h⟩:=zc h
     refine gv (.ref .sh 0 [] (.agg [ji v18.1,ji v18.2])) (yV (t:=.sh) (lo:=0) (xs:=x1.2) h19 h20 Ev18 rfl rfl) fun h21=>g1 21 (.agg [ji v18.1,ji v18.2]) h21 fun h22=>gm h1 fun h23=>gm h2 fun h24=>g2 23 24 (.agg [ji x2,ji x3]) h23 h24 fun h25=>g2 22 25 (jb (v18.1 == x2 && v18.2 == x3)) h22 h25 fun h26=>gm h26 fun h27=>yj h (fun hg10 h=>?_) (fun hg10 h=>?_)
     · iterate 9 refine yY (ct h27 hg10) ?_
       refine g2 27 36 (jb true) (ct h27 hg10) (rf (.tup [])) fun h37=>gz [(1,_),(2,_),(3,_),(6,_),(7,_),(37,_)] ⟨h1,h2,h3,h6,h7,h37⟩ ?_
       rintro s ⟨h1,h2,h3,h6,h7,h37⟩
       exact zbN H x2 x3 x1 x9 (ug F x2 x3 x1 k) ih true _ ⟨h1,h2,h3,h6,h7,h37⟩ h
     refine zt (ct h27 hg10) (g1 3 (.ref (.bx 3) 0 [1] (eP x1.2)) h3 fun h28=>zt (ct h27 hg10) (g1 28 (eP x1.2) h28 fun h29=>zt (ct h27 hg10) (gm h7 fun h30=>?_)))
     obtain ⟨v19,Ev19,h⟩:=zc h
     refine zt (ct h27 hg10) (gv (.ref .sh 0 [] (.agg [ji v19.1,ji v19.2])) (yV (t:=.sh) (lo:=0) (xs:=x1.2) h29 h30 Ev19 rfl rfl) fun h31=>zt (ct h27 hg10) (g1 31 (.agg [ji v19.1,ji v19.2]) h31 fun h32=>zt (ct h27 hg10) (gm h2 fun h33=>zt (ct h27 hg10) (gm h1 fun h34=>zt (ct h27 hg10) (g2 33 34 (.agg [ji x3,ji x2]) h33 h34 fun h35=>zt (ct h27 hg10) (g2 32 35 (jb (v19.1 == x3 && v19.2 == x2)) h32 h35 fun h36=>g2 27 36 (jb (v19.1 == x3 && v19.2 == x2)) (ct h27 hg10) h36 fun h37=>gz [(1,_),(2,_),(3,_),(6,_),(7,_),(37,_)] ⟨h1,h2,h3,h6,h7,h37⟩ ?_))))))
     rintro s ⟨h1,h2,h3,h6,h7,h37⟩
     exact zbN H x2 x3 x1 x9 (ug F x2 x3 x1 k) ih (v19.1 == x3 && v19.2 == x2) _ ⟨h1,h2,h3,h6,h7,h37⟩ h
   refine .exit (.esq (.elp (.ebk (.nsq (.seq (rg (g0 (jb false) fun h6=>gq (.nsq (.ret ?_)))))))))
   obtain rfl:=oi h
   exact rrA (zr h6) rfl
def WL (F:Nat) (x1:GR) (x2:Int) (x3:Int):Option Bool:=
 bif (x2 == x3) then
  some true
 else
  ug F x2 x3 x1 F 0
theorem t18 (H:H18 D σ F) (x1:GR) (x2:Int) (x3:Int) (s:Nat→V) (hs:zu [(0,gV x1),(1,ji x2),(2,ji x3)] s) (h:WL F x1 x2 x3=some r):Run D σ (R18 r) (.run A18 []) s:=by
 unfold WL at h
 obtain ⟨h0,h1,h2⟩:=hs
 refine .seq (zA (zZ ?_))
 refine ez [(0,_),(1,_),(2,_),(3,_)] ⟨za h0 rfl mIE,za h1 rfl mi,za h2 rfl mi,ze rfl⟩ ?_
 rintro s ⟨h0,h1,h2,h3⟩
 refine xU (gV x1) (zx h0 rfl) h3 rfl (g0 (jb false) fun h6=>gq (.nsq (.seq (.seq (rg (gm h1 fun h8=>gm h2 fun h9=>g2 8 9 (jb (x2 == x3)) h8 h9 fun h10=>gq (.nsq (zp h10 h (fun h=>?_) (fun h=>?_)))))))))
 · refine .seq (rg (g0 (jb true) fun h6=>gq (.nsq (.ret ?_))))
   obtain rfl:=oi h
   exact rrA (zr h6) rfl
 refine .skip (.nsq (.seq (.seq (rg (g0 (ji 0) fun h7=>gq (.nsq (.block (.loop ?_))))))))
 exact zha H x2 x3 x1 F 0 _ ⟨h1,h2,rfl,h6,h7⟩ h
end
def e18 (F:Nat):Ent:=ent 18 (fun (x:(GR×Int×Int×Unit))=>WL F x.1 x.2.1 x.2.2.1) (fun (r:Bool)=>(Enc.enc (r:Bool))) 0 false []
abbrev C18 (D:List V→Option V) (F:Nat):Prop:=∀ (x0:GR) (x1:Int) (x2:Int) r,WL F x0 x1 x2=some r→D [Enc.enc x0,Enc.enc x1,Enc.enc x2]=some (Enc.enc (r:Bool))
theorem p18 {F:Nat}:C18 (e18 F).den F:=fun x0 x1 x2 _ h=>zS (x0,x1,x2,()) h
theorem o18 (hF:zF Try.prog D σ) (H:H18 D σ F):(e18 F).Ok Try.prog:=okZ (f:=18) Try.func18 fun ⟨x0,x1,x2,_⟩ y hy=>cR hF Try.func18 c18 (t18 H x0 x1 x2 _ ⟨rfl,rfl,rfl⟩ hy)
def zuP:AC:=(.cond (.t 156) .skip (.exit 0))
def zuM:AC:=(.cond (.t 173) (.seq (rr [jv 2 (.mov kf)]) .ret) .skip)
def ztw:AC:=(rr [jm 157 26,jv 158 (.bin .add (.t 157) (jn 1)),jm 26 158])
def ztu:AC:=(.seq (.block 1 (.seq (rr [jv 159 (.load (.ag [.s,.p]) (.t 5)),jv 160 (.fld (.t 3) 1 1),jv 161 (.load .p (.t 160)),jm 162 26,jv 163 (.idx (.t 161) (.t 162) 2),jv 164 (.idxA (.t 163) (jn 0) 2 1),jl 165 164,jv 166 (.fld (.t 3) 1 1),jv 167 (.load .p (.t 166)),jm 168 26,jv 169 (.idx (.t 167) (.t 168) 2),jv 170 (.idxA (.t 169) (jn 1) 2 1),jl 171 170,jx 172 (.call (jf 18) [.t 159,.t 165,.t 171]),jv 173 (.un .not (.t 172))]) zuM)) ztw)
def zlW:AC:=(.seq (.seq (rr [jm 152 26,jv 153 (.fld (.t 3) 1 1),jv 154 (.load .p (.t 153)),jk 155 154,jv 156 (.bin .lss (.t 152) (.t 155))]) zuP) ztu)
def zud:AC:=(.seq (rr [jv 191 (.load (.ag [.s,.p]) (.t 27)),jv 192 (.load (.ag [.s,.p]) (.t 5)),jx 193 (.call (jf 14) [.t 191,.t 192]),jm 194 193,jg 195 194 true (.mov (.t 29)),jg 196 194 true (.mov (.t 9)),jg 197 194 true (.bin .eql (.t 195) (.t 196)),jv 198 (.pick (.t 194) (.t 197) kf),jm 199 198,jg 200 199 true (.mov (.t 32)),jv 201 (.pick (.t 199) (.t 200) kf),jm 2 201]) .ret)
def zt4:AC:=(.seq (rr [jv 187 (.load (.ag [.s,.p]) (.t 5)),jx 188 (.call (jf 12) [.t 187]),jm 186 188,jv 189 (.ext (.t 186) 0),jv 190 (.extS (.t 186) 1),jm 31 189,jm 32 190]) zud)
def zuI:AC:=(.seq (rr [jv 181 (.load (.ag [.s,.p]) (.t 5)),jm 182 4,jx 183 (.call (jf 8) [.t 181,.t 182]),jm 180 183,jv 184 (.extS (.t 180) 0),jv 185 (.extS (.t 180) 1),jm 29 184,jm 30 185]) zt4)
def zrK:AC:=(.seq (.reg [.clr [27]] [jv 175 (.load (.ag [.s,.p]) (.t 5)),jm 176 4,jx 177 (.call (jf 6) [.t 175,.t 176]),jm 174 177,jv 178 (.ext (.t 174) 0),jv 179 (.extS (.t 174) 1),jx 27 (.alloc (.agg [i0,.sl .nl (.ag [.s,.s]) 0 []])),jz (.store (.ag [.s,.p]) (.t 27) (.t 178)),jm 28 179] []) zuI)
def zqL:AC:=(.cond (.t 151) (.seq (rr [jv 2 (.mov kt)]) .ret) .skip)
def zql:AC:=(.block 0 (.loop zlW))
def zrm:AC:=(.seq (.seq (rr [jv 26 (.mov (jn 0))]) zql) zrK)
def zik:AC:=(.seq (.seq (rr [jm 150 6,jv 151 (.un .not (.t 150))]) zqL) zrm)
def zlB:AC:=(.cond (.t 149) (.seq (rr [jv 2 (.mov kf)]) .ret) .skip)
def zk1:AC:=(.cond (.t 106) (.seq (rr [jv 2 (.mov kf)]) .ret) .skip)
def zsd:AC:=(.seq (rr [jm 130 19,jv 131 (.un .not (.t 130)),jm 132 131,jg 133 132 false (.load (.ag [.s,.p]) (.t 18)),jg 134 132 false (.load (.ag [.s,.p]) (.t 13)),.mk (some 135) (some (132,false)) false (.call (jf 14) [.t 133,.t 134]),jg 136 132 false (.un .not (.t 135)),jv 137 (.pick (.t 132) kt (.t 136)),jm 138 137,jg 139 138 false (.mov (.t 22)),jg 140 138 false (.mov (.t 20)),jg 141 138 false (.len (.t 140)),jg 142 138 false (.bin .sub (.t 141) (jn 1)),jg 143 138 false (.bin .neq (.t 139) (.t 142)),jv 144 (.pick (.t 138) kt (.t 143)),jm 145 144,jg 146 145 false (.mov (.t 24)),jg 147 145 false (.mov (.t 22)),jg 148 145 false (.bin .neq (.t 146) (.t 147)),jv 149 (.pick (.t 145) kt (.t 148))]) zlB)
def zqd:AC:=(.seq (rr [jv 125 (.load (.ag [.s,.p]) (.t 13)),jm 126 14,jx 127 (.call (jf 8) [.t 125,.t 126]),jm 124 127,jv 128 (.extS (.t 124) 0),jv 129 (.extS (.t 124) 1),jm 24 128,jm 25 129]) zsd)
def zse:AC:=(.seq (rr [jv 120 (.load (.ag [.s,.p]) (.t 13)),jx 121 (.call (jf 17) [.t 120]),jm 119 121,jv 122 (.extS (.t 119) 0),jv 123 (.extS (.t 119) 1),jm 22 122,jm 23 123]) zqd)
def zoR:AC:=(.seq (rr [jv 115 (.load (.ag [.s,.p]) (.t 13)),jx 116 (.call (jf 16) [.t 115]),jm 114 116,jv 117 (.ext (.t 114) 0),jv 118 (.extS (.t 114) 1),jm 20 117,jm 21 118]) zse)
def zpw:AC:=(.cond (.t 107) (.seq (.reg [.clr [18]] [jv 109 (.load (.ag [.s,.p]) (.t 13)),jm 110 14,jx 111 (.call (jf 6) [.t 109,.t 110]),jm 108 111,jv 112 (.ext (.t 108) 0),jv 113 (.extS (.t 108) 1),jx 18 (.alloc (.agg [i0,.sl .nl (.ag [.s,.s]) 0 []])),jz (.store (.ag [.s,.p]) (.t 18) (.t 112)),jm 19 113] []) zoR) .skip)
def zkR:AC:=(.seq (.seq (rr [jm 107 15]) zpw) zik)
def zob:AC:=(.cond (.t 34) (.seq (rr [jv 2 (.mov kt)]) .ret) .skip)
def zsB:AC:=(.seq (.seq (rr [jm 77 6,jm 78 8,jv 79 (.beq true (.t 77) (.t 78)),jm 80 79,jg 81 80 false (.load (.ag [.s,.p]) (.t 5)),jg 82 80 false (.load (.ag [.s,.p]) (.t 7)),.mk (some 83) (some (80,false)) false (.call (jf 14) [.t 81,.t 82]),jg 84 80 false (.un .not (.t 83)),jv 85 (.pick (.t 80) kt (.t 84)),jm 86 85,jg 87 86 false (.mov (.t 9)),jg 88 86 false (.mov (.t 11)),jg 89 86 false (.bin .neq (.t 87) (.t 88)),jv 90 (.pick (.t 86) kt (.t 89)),jm 91 90,jg 92 91 false (.mov (.t 10)),jg 93 91 false (.mov (.t 12)),jg 94 91 false (.beq true (.t 92) (.t 93)),jv 95 (.pick (.t 91) kt (.t 94)),jm 96 95,jg 97 96 false (.mov (.t 15)),jg 98 96 false (.mov (.t 17)),jg 99 96 false (.beq true (.t 97) (.t 98)),jv 100 (.pick (.t 96) kt (.t 99)),jm 101 100,jg 102 101 false (.mov (.t 14)),jg 103 101 false (.mov (.t 16)),.mk (some 104) (some (101,false)) false (.call (jf 15) [.t 102,.t 103]),jg 105 101 false (.un .not (.t 104)),jv 106 (.pick (.t 101) kt (.t 105))]) zk1) zkR)
def zpJ:AC:=(.seq (rr [jv 73 (.load (.ag [.s,.p]) (.t 13)),jx 74 (.call (jf 13) [.t 73]),jm 72 74,jv 75 (.ext (.t 72) 0),jv 76 (.extS (.t 72) 1),jm 16 75,jm 17 76]) zsB)
def zro:AC:=(.seq (rr [jv 68 (.load (.ag [.s,.p]) (.t 13)),jx 69 (.call (jf 12) [.t 68]),jm 67 69,jv 70 (.ext (.t 67) 0),jv 71 (.extS (.t 67) 1),jm 14 70,jm 15 71]) zpJ)
def zrs:AC:=(.seq (.reg [.clr [13]] [jm 64 0,jx 65 (.call (jf 11) [.t 64,jn 1]),jx 66 (.call (jf 10) [.t 65]),jx 13 (.alloc (.agg [i0,.sl .nl (.ag [.s,.s]) 0 []])),jz (.store (.ag [.s,.p]) (.t 13) (.t 66))] []) zro)
def zqE:AC:=(.seq (rr [jv 59 (.load (.ag [.s,.p]) (.t 3)),jm 60 4,jx 61 (.call (jf 9) [.t 59,.t 60]),jm 58 61,jv 62 (.extS (.t 58) 0),jv 63 (.extS (.t 58) 1),jm 11 62,jm 12 63]) zrs)
def zpf:AC:=(.seq (rr [jv 53 (.load (.ag [.s,.p]) (.t 3)),jm 54 4,jx 55 (.call (jf 8) [.t 53,.t 54]),jm 52 55,jv 56 (.extS (.t 52) 0),jv 57 (.extS (.t 52) 1),jm 9 56,jm 10 57]) zqE)
def zn6:AC:=(.seq (.reg [.clr [7]] [jv 47 (.load (.ag [.s,.p]) (.t 3)),jm 48 4,jx 49 (.call (jf 7) [.t 47,.t 48]),jm 46 49,jv 50 (.ext (.t 46) 0),jv 51 (.extS (.t 46) 1),jx 7 (.alloc (.agg [i0,.sl .nl (.ag [.s,.s]) 0 []])),jz (.store (.ag [.s,.p]) (.t 7) (.t 50)),jm 8 51] []) zpf)
def zsL:AC:=(.seq (.reg [.clr [5]] [jv 41 (.load (.ag [.s,.p]) (.t 3)),jm 42 4,jx 43 (.call (jf 6) [.t 41,.t 42]),jm 40 43,jv 44 (.ext (.t 40) 0),jv 45 (.extS (.t 40) 1),jx 5 (.alloc (.agg [i0,.sl .nl (.ag [.s,.s]) 0 []])),jz (.store (.ag [.s,.p]) (.t 5) (.t 44)),jm 6 45] []) zn6)
def zqG:AC:=(.seq (.reg [.clr [3]] [jm 36 0,jx 37 (.call (jf 5) [.t 36]),jm 35 37,jv 38 (.ext (.t 35) 0),jv 39 (.ext (.t 35) 1),jx 3 (.alloc (.agg [i0,.sl .nl (.ag [.s,.s]) 0 []])),jz (.store (.ag [.s,.p]) (.t 3) (.t 38)),jm 4 39] []) zsL)
def zrp:AC:=(.seq (.seq (rr [jm 33 0,jx 34 (.call (jf 4) [.t 33])]) zob) zqG)
def A3:AC:=(.seq (rr [jv 2 (.mov kf)]) zrp)
def an3:List An:=[⟨3,[.clr [3]],[],[],[]⟩,⟨4,[.clr [5]],[],[],[]⟩,⟨5,[.clr [7]],[],[],[]⟩,⟨8,[.clr [13]],[],[],[]⟩,⟨14,[.clr [18]],[],[],[]⟩,⟨27,[.clr [27]],[],[],[]⟩]
theorem c3:cq Try.prog Try.f3 an3=some A3:=by kernel_rfl
structure H3 (D:Den) (σ:Sig) (F:Nat):Prop where
 c4:C4 (D 4) F
 g4:σ 4=some (0,false)
 c5:C5 (D 5) F
 g5:σ 5=some (0,true)
 c6:C6 (D 6) F
 g6:σ 6=some (0,true)
 c7:C7 (D 7) F
 g7:σ 7=some (0,true)
 c8:C8 (D 8) F
 g8:σ 8=some (0,false)
 c9:C9 (D 9) F
 g9:σ 9=some (0,false)
 c11:C11 (D 11) F
 g11:σ 11=some (0,false)
 c10:C10 (D 10) F
 g10:σ 10=some (0,true)
 c12:C12 (D 12) F
 g12:σ 12=some (0,false)
 c13:C13 (D 13) F
 g13:σ 13=some (0,false)
 c14:C14 (D 14) F
 g14:σ 14=some (0,false)
 c15:C15 (D 15) F
 g15:σ 15=some (0,false)
 c16:C16 (D 16) F
 g16:σ 16=some (0,false)
 c17:C17 (D 17) F
 g17:σ 17=some (0,false)
 c18:C18 (D 18) F
 g18:σ 18=some (0,false)
abbrev R3 (r:Bool):(Nat→V)→Prop:=RR Try.prog [.tmp 2] 0 false (Enc.enc (r:Bool))
section
variable {r:Bool}
def vn (F:Nat) (r3:(GR×LI)) (r4:(GR×Bool)) (r6:(Int×Bool)) :Nat→Int→Option Bool
 | 0,_=>none
 | k + 1,x25=>
   bif decide (x25 < (r3.1.2.length:Int)) then
    (idx r3.1.2 x25).bind fun v29=>
    (idx r3.1.2 x25).bind fun v30=>
    (WL F r4.1 v29.1 v30.2).bind fun r31=>
    bif (!r31) then
     some false
    else
     (vn F r3 r4 r6 k) (w64 (x25 + 1))
   else
    (wr F r4.1 r3.2).bind fun r32=>
    (y6 F r4.1 r3.2).bind fun r33=>
    (yZ F r4.1).bind fun r34=>
    (Zd F r32.1 r4.1).bind fun r35=>
    bif r35 then
     bif (r33.1 == r6.1) then
      some r34.2
     else
      some false
    else
     some false
theorem zjR (H:H3 D σ F) (r3:(GR×LI)) (r4:(GR×Bool)) (r6:(Int×Bool)) :∀ (k:Nat) (x25:Int) (s:Nat→V),zu [(2,jb false),(3,bG 3 r3.1),(4,eL r3.2),(5,bG 5 r4.1),(9,ji r6.1),(26,ji x25)] s→vn F r3 r4 r6 k x25=some r→Run D σ (R3 r) (.run zlW [.lp zlW,.bk 0,.sq zrK]) s:=by
 intro k
 induction k with
 | zero=>intro x25 s _ h;exact nm h
 | succ k ih=>
   intro x25 s hs h
   rw [vn] at h
   obtain ⟨h2,h3,h4,h5,h9,h26⟩:=hs
   refine .seq (.seq (rg (gm h26 fun h152=>g1 3 (.ref (.bx 3) 0 [1] (eP r3.1.2)) h3 fun h153=>g1 153 (eP r3.1.2) h153 fun h154=>gl r3.1.2 h154 fun h155=>g2 152 155 (jb (decide (x25 < (r3.1.2.length:Int)))) h152 h155 fun h156=>gq (.nsq (zp h156 h (fun h=>?_) (fun h=>?_))))))
   · refine .skip (.nsq (.seq (.block (.seq (rg (g1 5 (gV r4.1) h5 fun h159=>g1 3 (.ref (.bx 3) 0 [1] (eP r3.1.2)) h3 fun h160=>g1 160 (eP r3.1.2) h160 fun h161=>gm h26 fun h162=>?_))))))
     obtain ⟨v29,Ev29,h⟩:=zc h
     refine gv (.ref .sh 0 [] (.agg [ji v29.1,ji v29.2])) (yV (t:=.sh) (lo:=0) (xs:=r3.1.2) h161 h162 Ev29 rfl rfl) fun h163=>g1 163 (.ref .sh 0 [0] (ji v29.1)) h163 fun h164=>g1 164 (ji v29.1) h164 fun h165=>g1 3 (.ref (.bx 3) 0 [1] (eP r3.1.2)) h3 fun h166=>g1 166 (eP r3.1.2) h166 fun h167=>gm h26 fun h168=>?_
     obtain ⟨v30,Ev30,h⟩:=zc h
     refine gv (.ref .sh 0 [] (.agg [ji v30.1,ji v30.2])) (yV (t:=.sh) (lo:=0) (xs:=r3.1.2) h167 h168 Ev30 rfl rfl) fun h169=>g1 169 (.ref .sh 0 [1] (ji v30.2)) h169 fun h170=>g1 170 (ji v30.2) h170 fun h171=>?_
     obtain ⟨r31,Er31,h⟩:=zc h
     refine gcF [Enc.enc (r4.1:GR),Enc.enc (v29.1:Int),Enc.enc (v30.2:Int)] (zh h159 rfl (Enc.erase_enc (r4.1:GR)) (zh h165 rfl rfl (zh h171 rfl rfl zI))) (H.c18 _ _ _ _ Er31) H.g18 (g1 172 (jb (!r31)) (rf (jb r31)) fun h173=>gz [(2,_),(3,_),(4,_),(5,_),(9,_),(26,_),(173,_)] ⟨h2,h3,h4,h5,h9,h26,h173⟩ ?_)
     rintro s ⟨h2,h3,h4,h5,h9,h26,h173⟩
     refine .nsq (zp h173 h (fun h=>?_) (fun h=>?_))
     · refine .seq (rg (g0 (jb false) fun h2=>gq (.nsq (.ret ?_))))
       obtain rfl:=oi h
       exact rrA (zr h2) rfl
     refine .skip (.nbk (.nsq (rg (gm h26 fun h157=>g1 157 (ji (w64 (x25 + 1))) h157 fun h158=>gm h158 fun h26=>gq (.nlp ?_)))))
     exact ih (w64 (x25 + 1)) _ ⟨h2,h3,h4,h5,h9,h26⟩ h
   refine .exit (.esq (.elp (.ebk (.nsq (.seq (zA (zZ ?_)))))))
   refine ez [(2,_),(4,_),(5,_),(9,_),(27,_)] ⟨za h2 rfl mb,za h4 rfl me,za h5 rfl (zi rfl mIE),za h9 rfl mi,ze rfl⟩ ?_
   rintro s ⟨h2,h4,h5,h9,h27⟩
   refine g1 5 (gV r4.1) h5 fun h175=>gm h4 fun h176=>?_
   obtain ⟨r32,Er32,h⟩:=zc h
   refine UA (m:=0) (al:=true) (r:=.tup [Enc.enc (r32.1:GR),Enc.enc (r32.2:Bool)]) [Enc.enc (r4.1:GR),eL r3.2] (zh h175 rfl (Enc.erase_enc (r4.1:GR)) (zh h176 rfl (Enc.erase_enc (r3.2:LI)) zI)) (H.c6 _ _ _ Er32) H.g6 (Jl (Z4 (v:=gV r4.1) h175 rfl rfl (Z4 (v:=eL r3.2) h176 rfl rfl UW))) rfl rfl rfl (gm (rf (.tup [gV r32.1,jb r32.2])) fun h174=>g1 174 (gV r32.1) h174 fun h178=>g1 174 (jb r32.2) h174 fun h179=>yR h27 (z5 (gV r32.1) (zx rfl rfl) (zx h178 rfl) (xE (by first | rfl | simp [V.toks,V.tokss,Enc.toks_enc,zX])) (gm (zd h179 rfl) fun h28=>?_)))
   refine gz [(2,jb false),(4,eL r3.2),(5,bG 5 r4.1),(9,ji r6.1),(27,bG 27 r32.1)] ⟨zd h2 rfl,zd h4 uE,zd h5 (zy rfl rfl uIE),zd h9 rfl,zd rfl rfl⟩ ?_
   rintro s ⟨h2,h4,h5,h9,h27⟩
   refine .nsq (.seq (rg (g1 5 (gV r4.1) h5 fun h181=>gm h4 fun h182=>?_)))
   obtain ⟨r33,Er33,h⟩:=zc h
   refine gcF [Enc.enc (r4.1:GR),eL r3.2] (zh h181 rfl (Enc.erase_enc (r4.1:GR)) (zh h182 rfl (Enc.erase_enc (r3.2:LI)) zI)) (H.c8 _ _ _ Er33) H.g8 (gm (rf (.tup [ji r33.1,jb r33.2])) fun h180=>g1 180 (ji r33.1) h180 fun h184=>g1 180 (jb r33.2) h180 fun h185=>gm h184 fun h29=>gm h185 fun h30=>gq (.nsq (.seq (rg (g1 5 (gV r4.1) h5 fun h187=>?_)))))
   obtain ⟨r34,Er34,h⟩:=zc h
   refine gcF [Enc.enc (r4.1:GR)] (zh h187 rfl (Enc.erase_enc (r4.1:GR)) zI) (H.c12 _ _ Er34) H.g12 (gm (rf (.tup [eL r34.1,jb r34.2])) fun h186=>g1 186 (eL r34.1) h186 fun h189=>g1 186 (jb r34.2) h186 fun h190=>gm h189 fun h31=>gm h190 fun h32=>gq (.nsq (.seq (rg (g1 27 (gV r32.1) h27 fun h191=>g1 5 (gV r4.1) h5 fun h192=>?_)))))
   obtain ⟨r35,Er35,h⟩:=zc h
   refine gcF [Enc.enc (r32.1:GR),Enc.enc (r4.1:GR)] (zh h191 rfl (Enc.erase_enc (r32.1:GR)) (zh h192 rfl (Enc.erase_enc (r4.1:GR)) zI)) (H.c14 _ _ _ Er35) H.g14 (gm (rf (jb r35)) fun h194=>yj h (fun hg4 h=>?_) (fun hg4 h=>?_))
   · refine zt (ct h194 hg4) (gm h29 fun h195=>zt (ct h194 hg4) (gm h9 fun h196=>zt (ct h194 hg4) (g2 195 196 (jb (r33.1 == r6.1)) h195 h196 fun h197=>g2 194 197 (jb (r33.1 == r6.1)) (ct h194 hg4) h197 fun h198=>gm h198 fun h199=>yj h (fun hg9 h=>?_) (fun hg9 h=>?_))))
     · refine zt (ct h199 hg9) (gm h32 fun h200=>g2 199 200 (jb r34.2) (ct h199 hg9) h200 fun h201=>gm h201 fun h2=>gq (.nsq (.ret ?_)))
       obtain rfl:=oi h
       exact rrA (zr h2) rfl
     refine yY (ct h199 hg9) (g2 199 200 (jb false) (ct h199 hg9) (rf (.tup [])) fun h201=>gm h201 fun h2=>gq (.nsq (.ret ?_)))
     obtain rfl:=oi h
     exact rrA (zr h2) rfl
   iterate 3 refine yY (ct h194 hg4) ?_
   refine g2 194 197 (jb false) (ct h194 hg4) (rf (.tup [])) fun h198=>gm h198 fun h199=>yY h199 (g2 199 200 (jb false) h199 (rf (.tup [])) fun h201=>gm h201 fun h2=>gq (.nsq (.ret ?_)))
   obtain rfl:=oi h
   exact rrA (zr h2) rfl
def vQ (F:Nat) (r3:(GR×LI)) (r4:(GR×Bool)) (r6:(Int×Bool))  :Option Bool:=
 bif (!r4.2) then
  some true
 else
  vn F r3 r4 r6 F 0
theorem ze5 (H:H3 D σ F) (r3:(GR×LI)) (r4:(GR×Bool)) (r6:(Int×Bool))   (s:Nat→V) (hs:zu [(2,jb false),(3,bG 3 r3.1),(4,eL r3.2),(5,bG 5 r4.1),(6,jb r4.2),(9,ji r6.1)] s) (h:vQ F r3 r4 r6  =some r):Run D σ (R3 r) (.nrm [.sq zik]) s:=by
 unfold vQ at h
 obtain ⟨h2,h3,h4,h5,h6,h9⟩:=hs
 refine .nsq (.seq (.seq (rg (gm h6 fun h150=>g1 150 (jb (!r4.2)) h150 fun h151=>gq (.nsq (zp h151 h (fun h=>?_) (fun h=>?_)))))))
 · refine .seq (rg (g0 (jb true) fun h2=>gq (.nsq (.ret ?_))))
   obtain rfl:=oi h
   exact rrA (zr h2) rfl
 refine .skip (.nsq (.seq (.seq (rg (g0 (ji 0) fun h26=>gq (.nsq (.block (.loop ?_))))))))
 exact zjR H r3 r4 r6 F 0 _ ⟨h2,h3,h4,h5,h9,h26⟩ h
def vM (F:Nat) (r3:(GR×LI)) (r4:(GR×Bool)) (r6:(Int×Bool))  (x41:Bool):Option Bool:=
 bif x41 then
  some false
 else
  vQ F r3 r4 r6
theorem L0 (H:H3 D σ F) (r3:(GR×LI)) (r4:(GR×Bool)) (r6:(Int×Bool))  (x41:Bool) (s:Nat→V) (hs:zu [(2,jb false),(3,bG 3 r3.1),(4,eL r3.2),(5,bG 5 r4.1),(6,jb r4.2),(9,ji r6.1),(149,jb x41)] s) (h:vM F r3 r4 r6  x41=some r):Run D σ (R3 r) (.nrm [.sq zlB,.sq zik]) s:=by
 unfold vM at h
 obtain ⟨h2,h3,h4,h5,h6,h9,h149⟩:=hs
 refine .nsq (zp h149 h (fun h=>?_) (fun h=>?_))
 · refine .seq (rg (g0 (jb false) fun h2=>gq (.nsq (.ret ?_))))
   obtain rfl:=oi h
   exact rrA (zr h2) rfl
 refine .skip ?_
 exact ze5 H r3 r4 r6 _ ⟨h2,h3,h4,h5,h6,h9⟩ h
def wm (F:Nat) (r3:(GR×LI)) (r4:(GR×Bool)) (r6:(Int×Bool)) (r9:GR) (r10:(LI×Bool))  (x14:Bool):Option Bool:=
 bif x14 then
  some false
 else
  bif r10.2 then
   (wr F r9 r10.1).bind fun r36=>
   (Yc F r9).bind fun r37=>
   (uf F r9).bind fun r38=>
   (y6 F r9 r10.1).bind fun r39=>
   bif (!r36.2) then
    vM F r3 r4 r6 true
   else
    (Zd F r36.1 r9).bind fun r42=>
    bif (!r42) then
     vM F r3 r4 r6 true
    else
     bif (r38.1 != (w64 ((r37.1.length:Int) - 1))) then
      vM F r3 r4 r6 true
     else
      vM F r3 r4 r6 (r39.1 != r38.1)
  else
   vQ F r3 r4 r6
theorem JD (H:H3 D σ F) (r3:(GR×LI)) (r4:(GR×Bool)) (r6:(Int×Bool)) (r9:GR) (r10:(LI×Bool))  (x14:Bool) (s:Nat→V) (hs:zu [(2,jb false),(3,bG 3 r3.1),(4,eL r3.2),(5,bG 5 r4.1),(6,jb r4.2),(9,ji r6.1),(13,bG 13 r9),(14,eL r10.1),(15,jb r10.2),(106,jb x14)] s) (h:wm F r3 r4 r6 r9 r10  x14=some r):Run D σ (R3 r) (.nrm [.sq zk1,.sq zkR]) s:=by
 unfold wm at h
 obtain ⟨h2,h3,h4,h5,h6,h9,h13,h14,h15,h106⟩:=hs
 refine .nsq (zp h106 h (fun h=>?_) (fun h=>?_))
 · refine .seq (rg (g0 (jb false) fun h2=>gq (.nsq (.ret ?_))))
   obtain rfl:=oi h
   exact rrA (zr h2) rfl
 refine .skip (.nsq (.seq (.seq (rg (gm h15 fun h107=>gq (.nsq (zp h107 h (fun h=>?_) (fun h=>?_))))))))
 · refine .seq (zA (zZ ?_))
   refine ez [(2,_),(3,_),(4,_),(5,_),(6,_),(9,_),(13,_),(14,_),(18,_)] ⟨za h2 rfl mb,za h3 rfl (zi rfl mIE),za h4 rfl me,za h5 rfl (zi rfl mIE),za h6 rfl mb,za h9 rfl mi,za h13 rfl (zi rfl mIE),za h14 rfl me,ze rfl⟩ ?_
   rintro s ⟨h2,h3,h4,h5,h6,h9,h13,h14,h18⟩
   refine g1 13 (gV r9) h13 fun h109=>gm h14 fun h110=>?_
   obtain ⟨r36,Er36,h⟩:=zc h
   refine UA (m:=0) (al:=true) (r:=.tup [Enc.enc (r36.1:GR),Enc.enc (r36.2:Bool)]) [Enc.enc (r9:GR),eL r10.1] (zh h109 rfl (Enc.erase_enc (r9:GR)) (zh h110 rfl (Enc.erase_enc (r10.1:LI)) zI)) (H.c6 _ _ _ Er36) H.g6 (Jl (Z4 (v:=gV r9) h109 rfl rfl (Z4 (v:=eL r10.1) h110 rfl rfl UW))) rfl rfl rfl (gm (rf (.tup [gV r36.1,jb r36.2])) fun h108=>g1 108 (gV r36.1) h108 fun h112=>g1 108 (jb r36.2) h108 fun h113=>yR h18 (z5 (gV r36.1) (zx rfl rfl) (zx h112 rfl) (xE (by first | rfl | simp [V.toks,V.tokss,Enc.toks_enc,zX])) (gm (zd h113 rfl) fun h19=>?_)))
   refine gz [(2,jb false),(3,bG 3 r3.1),(4,eL r3.2),(5,bG 5 r4.1),(6,jb r4.2),(9,ji r6.1),(13,bG 13 r9),(14,eL r10.1),(18,bG 18 r36.1),(19,_)] ⟨zd h2 rfl,zd h3 (zy rfl rfl uIE),zd h4 uE,zd h5 (zy rfl rfl uIE),zd h6 rfl,zd h9 rfl,zd h13 (zy rfl rfl uIE),zd h14 uE,zd rfl rfl,h19⟩ ?_
   rintro s ⟨h2,h3,h4,h5,h6,h9,h13,h14,h18,h19⟩
   refine .nsq (.seq (rg (g1 13 (gV r9) h13 fun h115=>?_)))
   obtain ⟨r37,Er37,h⟩:=zc h
   refine gcF [Enc.enc (r9:GR)] (zh h115 rfl (Enc.erase_enc (r9:GR)) zI) (H.c16 _ _ Er37) H.g16 (gm (rf (.tup [eL r37.1,jb r37.2])) fun h114=>g1 114 (eL r37.1) h114 fun h117=>g1 114 (jb r37.2) h114 fun h118=>gm h117 fun h20=>gm h118 fun h21=>gq (.nsq (.seq (rg (g1 13 (gV r9) h13 fun h120=>?_)))))
   obtain ⟨r38,Er38,h⟩:=zc h
   refine gcF [Enc.enc (r9:GR)] (zh h120 rfl (Enc.erase_enc (r9:GR)) zI) (H.c17 _ _ Er38) H.g17 (gm (rf (.tup [ji r38.1,jb r38.2])) fun h119=>g1 119 (ji r38.1) h119 fun h122=>g1 119 (jb r38.2) h119 fun h123=>gm h122 fun h22=>gm h123 fun h23=>gq (.nsq (.seq (rg (g1 13 (gV r9) h13 fun h125=>gm h14 fun h126=>?_)))))
   obtain ⟨r39,Er39,h⟩:=zc h
   refine gcF [Enc.enc (r9:GR),eL r10.1] (zh h125 rfl (Enc.erase_enc (r9:GR)) (zh h126 rfl (Enc.erase_enc (r10.1:LI)) zI)) (H.c8 _ _ _ Er39) H.g8 (gm (rf (.tup [ji r39.1,jb r39.2])) fun h124=>g1 124 (ji r39.1) h124 fun h128=>g1 124 (jb r39.2) h124 fun h129=>gm h128 fun h24=>gm h129 fun h25=>gq (.nsq (.seq (rg (gm h19 fun h130=>g1 130 (jb (!r36.2)) h130 fun h131=>gm h131 fun h132=>yj h (fun hg3 h=>?_) (fun hg3 h=>?_))))))
   · iterate 4 refine yY (ct h132 hg3) ?_
     refine g2 132 136 (jb true) (ct h132 hg3) (rf (.tup [])) fun h137=>gm h137 fun h138=>yY h138 ?_
     iterate 4 refine yY h138 ?_
     refine g2 138 143 (jb true) h138 (rf (.tup [])) fun h144=>gm h144 fun h145=>yY h145 ?_
     iterate 2 refine yY h145 ?_
     refine g2 145 148 (jb true) h145 (rf (.tup [])) fun h149=>gz [(2,_),(3,_),(4,_),(5,_),(6,_),(9,_),(149,_)] ⟨h2,h3,h4,h5,h6,h9,h149⟩ ?_
     rintro s ⟨h2,h3,h4,h5,h6,h9,h149⟩
     exact L0 H r3 r4 r6 true _ ⟨h2,h3,h4,h5,h6,h9,h149⟩ h
   refine zt (ct h132 hg3) (g1 18 (gV r36.1) h18 fun h133=>zt (ct h132 hg3) (g1 13 (gV r9) h13 fun h134=>?_))
   obtain ⟨r42,Er42,h⟩:=zc h
   refine zt (ct h132 hg3) (gcF [Enc.enc (r36.1:GR),Enc.enc (r9:GR)] (zh h133 rfl (Enc.erase_enc (r36.1:GR)) (zh h134 rfl (Enc.erase_enc (r9:GR)) zI)) (H.c14 _ _ _ Er42) H.g14 (zt (ct h132 hg3) (g1 135 (jb (!r42)) (rf (jb r42)) fun h136=>g2 132 136 (jb (!r42)) (ct h132 hg3) h136 fun h137=>gm h137 fun h138=>yj h (fun hg9 h=>?_) (fun hg9 h=>?_))))
   · iterate 5 refine yY (ct h138 hg9) ?_
     refine g2 138 143 (jb true) (ct h138 hg9) (rf (.tup [])) fun h144=>gm h144 fun h145=>yY h145 ?_
     iterate 2 refine yY h145 ?_
     refine g2 145 148 (jb true) h145 (rf (.tup [])) fun h149=>gz [(2,_),(3,_),(4,_),(5,_),(6,_),(9,_),(149,_)] ⟨h2,h3,h4,h5,h6,h9,h149⟩ ?_
     rintro s ⟨h2,h3,h4,h5,h6,h9,h149⟩
     exact L0 H r3 r4 r6 true _ ⟨h2,h3,h4,h5,h6,h9,h149⟩ h
   refine zt (ct h138 hg9) (gm h22 fun h139=>zt (ct h138 hg9) (gm h20 fun h140=>zt (ct h138 hg9) (gl r37.1 h140 fun h141=>zt (ct h138 hg9) (g1 141 (ji (w64 ((r37.1.length:Int) - 1))) h141 fun h142=>zt (ct h138 hg9) (g2 139 142 (jb (r38.1 != (w64 ((r37.1.length:Int) - 1)))) h139 h142 fun h143=>g2 138 143 (jb (r38.1 != (w64 ((r37.1.length:Int) - 1)))) (ct h138 hg9) h143 fun h144=>gm h144 fun h145=>yj h (fun hg16 h=>?_) (fun hg16 h=>?_))))))
   · iterate 3 refine yY (ct h145 hg16) ?_
     refine g2 145 148 (jb true) (ct h145 hg16) (rf (.tup [])) fun h149=>gz [(2,_),(3,_),(4,_),(5,_),(6,_),(9,_),(149,_)] ⟨h2,h3,h4,h5,h6,h9,h149⟩ ?_
     rintro s ⟨h2,h3,h4,h5,h6,h9,h149⟩
     exact L0 H r3 r4 r6 true _ ⟨h2,h3,h4,h5,h6,h9,h149⟩ h
   refine zt (ct h145 hg16) (gm h24 fun h146=>zt (ct h145 hg16) (gm h22 fun h147=>zt (ct h145 hg16) (g2 146 147 (jb (r39.1 != r38.1)) h146 h147 fun h148=>g2 145 148 (jb (r39.1 != r38.1)) (ct h145 hg16) h148 fun h149=>gz [(2,_),(3,_),(4,_),(5,_),(6,_),(9,_),(149,_)] ⟨h2,h3,h4,h5,h6,h9,h149⟩ ?_)))
   rintro s ⟨h2,h3,h4,h5,h6,h9,h149⟩
   exact L0 H r3 r4 r6 (r39.1 != r38.1) _ ⟨h2,h3,h4,h5,h6,h9,h149⟩ h
 refine .skip ?_
 exact ze5 H r3 r4 r6 _ ⟨h2,h3,h4,h5,h6,h9⟩ h
def v7 (F:Nat) (x1:LB):Option Bool:=
 (KX F x1).bind fun r2=>
 bif r2 then
  some true
 else
  (vo F x1).bind fun r3=>
  (wr F r3.1 r3.2).bind fun r4=>
  (vx F r3.1 r3.2).bind fun r5=>
  (y6 F r3.1 r3.2).bind fun r6=>
  (wo F r3.1 r3.2).bind fun r7=>
  (Jr F x1 1).bind fun r8=>
  (xh F r8).bind fun r9=>
  (yZ F r9).bind fun r10=>
  (yW F r9).bind fun r11=>
  bif (r4.2 != r5.2) then
   wm F r3 r4 r6 r9 r10 true
  else
   (Zd F r4.1 r5.1).bind fun r43=>
   bif (!r43) then
    wm F r3 r4 r6 r9 r10 true
   else
    bif (r6.1 != r7.1) then
     wm F r3 r4 r6 r9 r10 true
    else
     bif (r6.2 != r7.2) then
      wm F r3 r4 r6 r9 r10 true
     else
      bif (r10.2 != r11.2) then
       wm F r3 r4 r6 r9 r10 true
      else
       (UK F r10.1 r11.1).bind fun r44=>
       wm F r3 r4 r6 r9 r10 (!r44)
theorem t3 (H:H3 D σ F) (x1:LB) (s:Nat→V) (hs:zu [(0,eB x1)] s) (h:v7 F x1=some r):Run D σ (R3 r) (.run A3 []) s:=by
 unfold v7 at h
 have h0:=hs
 refine .seq (rg (g0 (jb false) fun h2=>gq (.nsq (.seq (.seq (rg (gm h0 fun h33=>?_)))))))
 obtain ⟨r2,Er2,h⟩:=zc h
 refine gcF [Enc.enc (x1:LB)] (zh h33 rfl (Enc.erase_enc (x1:LB)) zI) (H.c4 _ _ Er2) H.g4 (gq (.nsq (zp rfl h (fun h=>?_) (fun h=>?_))))
 · refine .seq (rg (g0 (jb true) fun h2=>gq (.nsq (.ret ?_))))
   obtain rfl:=oi h
   exact rrA (zr h2) rfl
 refine .skip (.nsq (.seq (zA (zZ ?_))))
 refine ez [(0,_),(2,_),(3,_)] ⟨za h0 rfl me,za h2 rfl mb,ze rfl⟩ ?_
 rintro s ⟨h0,h2,h3⟩
 refine gm h0 fun h36=>?_
 obtain ⟨r3,Er3,h⟩:=zc h
 refine UA (m:=0) (al:=true) (r:=.tup [Enc.enc (r3.1:GR),eL r3.2]) [Enc.enc (x1:LB)] (zh h36 rfl (Enc.erase_enc (x1:LB)) zI) (H.c5 _ _ Er3) H.g5 (Jl (Z4 (v:=eB x1) h36 rfl rfl UW)) rfl rfl rfl (gm (rf (.tup [gV r3.1,eL r3.2])) fun h35=>g1 35 (gV r3.1) h35 fun h38=>g1 35 (eL r3.2) h35 fun h39=>yR h3 (z5 (gV r3.1) (zx rfl rfl) (zx h38 rfl) (xE (by first | rfl | simp [V.toks,V.tokss,Enc.toks_enc,zX])) (gm (zd h39 uE) fun h4=>gz [(0,eB x1),(2,jb false),(3,bG 3 r3.1),(4,_)] ⟨zd h0 uE,zd h2 rfl,zd rfl rfl,h4⟩ ?_)))
 rintro s ⟨h0,h2,h3,h4⟩
 refine .nsq (.seq (zA (zZ ?_)))
 refine ez [(0,_),(2,_),(3,_),(4,_),(5,_)] ⟨za h0 rfl me,za h2 rfl mb,za h3 rfl (zi rfl mIE),za h4 rfl me,ze rfl⟩ ?_
 rintro s ⟨h0,h2,h3,h4,h5⟩
 refine g1 3 (gV r3.1) h3 fun h41=>gm h4 fun h42=>?_
 obtain ⟨r4,Er4,h⟩:=zc h
 refine UA (m:=0) (al:=true) (r:=.tup [Enc.enc (r4.1:GR),Enc.enc (r4.2:Bool)]) [Enc.enc (r3.1:GR),eL r3.2] (zh h41 rfl (Enc.erase_enc (r3.1:GR)) (zh h42 rfl (Enc.erase_enc (r3.2:LI)) zI)) (H.c6 _ _ _ Er4) H.g6 (Jl (Z4 (v:=gV r3.1) h41 rfl rfl (Z4 (v:=eL r3.2) h42 rfl rfl UW))) rfl rfl rfl (gm (rf (.tup [gV r4.1,jb r4.2])) fun h40=>g1 40 (gV r4.1) h40 fun h44=>g1 40 (jb r4.2) h40 fun h45=>yR h5 (z5 (gV r4.1) (zx rfl rfl) (zx h44 rfl) (xE (by first | rfl | simp [V.toks,V.tokss,Enc.toks_enc,zX])) (gm (zd h45 rfl) fun h6=>?_)))
 refine gz [(0,eB x1),(2,jb false),(3,bG 3 r3.1),(4,eL r3.2),(5,bG 5 r4.1),(6,_)] ⟨zd h0 uE,zd h2 rfl,zd h3 (zy rfl rfl uIE),zd h4 uE,zd rfl rfl,h6⟩ ?_
 rintro s ⟨h0,h2,h3,h4,h5,h6⟩
 refine .nsq (.seq (zA (zZ ?_)))
 refine ez [(0,_),(2,_),(3,_),(4,_),(5,_),(6,_),(7,_)] ⟨za h0 rfl me,za h2 rfl mb,za h3 rfl (zi rfl mIE),za h4 rfl me,za h5 rfl (zi rfl mIE),za h6 rfl mb,ze rfl⟩ ?_
 rintro s ⟨h0,h2,h3,h4,h5,h6,h7⟩
 refine g1 3 (gV r3.1) h3 fun h47=>gm h4 fun h48=>?_
 obtain ⟨r5,Er5,h⟩:=zc h
 refine UA (m:=0) (al:=true) (r:=.tup [Enc.enc (r5.1:GR),Enc.enc (r5.2:Bool)]) [Enc.enc (r3.1:GR),eL r3.2] (zh h47 rfl (Enc.erase_enc (r3.1:GR)) (zh h48 rfl (Enc.erase_enc (r3.2:LI)) zI)) (H.c7 _ _ _ Er5) H.g7 (Jl (Z4 (v:=gV r3.1) h47 rfl rfl (Z4 (v:=eL r3.2) h48 rfl rfl UW))) rfl rfl rfl (gm (rf (.tup [gV r5.1,jb r5.2])) fun h46=>g1 46 (gV r5.1) h46 fun h50=>g1 46 (jb r5.2) h46 fun h51=>yR h7 (z5 (gV r5.1) (zx rfl rfl) (zx h50 rfl) (xE (by first | rfl | simp [V.toks,V.tokss,Enc.toks_enc,zX])) (gm (zd h51 rfl) fun h8=>?_)))
 refine gz [(0,eB x1),(2,jb false),(3,bG 3 r3.1),(4,eL r3.2),(5,bG 5 r4.1),(6,jb r4.2),(7,bG 7 r5.1),(8,_)] ⟨zd h0 uE,zd h2 rfl,zd h3 (zy rfl rfl uIE),zd h4 uE,zd h5 (zy rfl rfl uIE),zd h6 rfl,zd rfl rfl,h8⟩ ?_
 rintro s ⟨h0,h2,h3,h4,h5,h6,h7,h8⟩
 refine .nsq (.seq (rg (g1 3 (gV r3.1) h3 fun h53=>gm h4 fun h54=>?_)))
 obtain ⟨r6,Er6,h⟩:=zc h
 refine gcF [Enc.enc (r3.1:GR),eL r3.2] (zh h53 rfl (Enc.erase_enc (r3.1:GR)) (zh h54 rfl (Enc.erase_enc (r3.2:LI)) zI)) (H.c8 _ _ _ Er6) H.g8 (gm (rf (.tup [ji r6.1,jb r6.2])) fun h52=>g1 52 (ji r6.1) h52 fun h56=>g1 52 (jb r6.2) h52 fun h57=>gm h56 fun h9=>gm h57 fun h10=>gq (.nsq (.seq (rg (g1 3 (gV r3.1) h3 fun h59=>gm h4 fun h60=>?_)))))
 obtain ⟨r7,Er7,h⟩:=zc h
 refine gcF [Enc.enc (r3.1:GR),eL r3.2] (zh h59 rfl (Enc.erase_enc (r3.1:GR)) (zh h60 rfl (Enc.erase_enc (r3.2:LI)) zI)) (H.c9 _ _ _ Er7) H.g9 (gm (rf (.tup [ji r7.1,jb r7.2])) fun h58=>g1 58 (ji r7.1) h58 fun h62=>g1 58 (jb r7.2) h58 fun h63=>gm h62 fun h11=>gm h63 fun h12=>gq (.nsq (.seq (zA (zZ ?_)))))
 refine ez [(0,_),(2,_),(3,_),(4,_),(5,_),(6,_),(7,_),(8,_),(9,_),(10,_),(11,_),(12,_),(13,_)] ⟨za h0 rfl me,za h2 rfl mb,za h3 rfl (zi rfl mIE),za h4 rfl me,za h5 rfl (zi rfl mIE),za h6 rfl mb,za h7 rfl (zi rfl mIE),za h8 rfl mb,za h9 rfl mi,za h10 rfl mb,za h11 rfl mi,za h12 rfl mb,ze rfl⟩ ?_
 rintro s ⟨h0,h2,h3,h4,h5,h6,h7,h8,h9,h10,h11,h12,h13⟩
 refine gm h0 fun h64=>?_
 obtain ⟨r8,Er8,h⟩:=zc h
 refine gcF [Enc.enc (x1:LB),Enc.enc (1:Int)] (zh h64 rfl (Enc.erase_enc (x1:LB)) (zh (v:=ji 1) rfl rfl rfl zI)) (H.c11 _ _ _ Er8) H.g11 ?_
 obtain ⟨r9,Er9,h⟩:=zc h
 refine UA (m:=0) (al:=true) (r:=Enc.enc (r9:GR)) [Enc.enc (r8:LB)] (zh (v:=eB r8) rfl rfl (Enc.erase_enc (r8:LB)) zI) (H.c10 _ _ Er9) H.g10 (Jl (Z4 (v:=eB r8) rfl rfl rfl UW)) rfl rfl rfl (yR h13 (z5 (gV r9) (zx rfl rfl) (zx rfl rfl) (xE (by first | rfl | simp [V.toks,V.tokss,Enc.toks_enc,zX])) ?_))
 refine gz [(2,jb false),(3,bG 3 r3.1),(4,eL r3.2),(5,bG 5 r4.1),(6,jb r4.2),(7,bG 7 r5.1),(8,jb r5.2),(9,ji r6.1),(10,jb r6.2),(11,ji r7.1),(12,jb r7.2),(13,bG 13 r9)] ⟨zd h2 rfl,zd h3 (zy rfl rfl uIE),zd h4 uE,zd h5 (zy rfl rfl uIE),zd h6 rfl,zd h7 (zy rfl rfl uIE),zd h8 rfl,zd h9 rfl,zd h10 rfl,zd h11 rfl,zd h12 rfl,zd rfl rfl⟩ ?_
 rintro s ⟨h2,h3,h4,h5,h6,h7,h8,h9,h10,h11,h12,h13⟩
 refine .nsq (.seq (rg (g1 13 (gV r9) h13 fun h68=>?_)))
 obtain ⟨r10,Er10,h⟩:=zc h
 refine gcF [Enc.enc (r9:GR)] (zh h68 rfl (Enc.erase_enc (r9:GR)) zI) (H.c12 _ _ Er10) H.g12 (gm (rf (.tup [eL r10.1,jb r10.2])) fun h67=>g1 67 (eL r10.1) h67 fun h70=>g1 67 (jb r10.2) h67 fun h71=>gm h70 fun h14=>gm h71 fun h15=>gq (.nsq (.seq (rg (g1 13 (gV r9) h13 fun h73=>?_)))))
 obtain ⟨r11,Er11,h⟩:=zc h
 refine gcF [Enc.enc (r9:GR)] (zh h73 rfl (Enc.erase_enc (r9:GR)) zI) (H.c13 _ _ Er11) H.g13 (gm (rf (.tup [eL r11.1,jb r11.2])) fun h72=>g1 72 (eL r11.1) h72 fun h75=>g1 72 (jb r11.2) h72 fun h76=>gm h75 fun h16=>gm h76 fun h17=>gq (.nsq (.seq (.seq (rg (gm h6 fun h77=>gm h8 fun h78=>g2 77 78 (jb (r4.2 != r5.2)) h77 h78 fun h79=>gm h79 fun h80=>yj h (fun hg4 h=>?_) (fun hg4 h=>?_)))))))
 · iterate 4 refine yY (ct h80 hg4) ?_
   refine g2 80 84 (jb true) (ct h80 hg4) (rf (.tup [])) fun h85=>gm h85 fun h86=>yY h86 ?_
   iterate 2 refine yY h86 ?_
   refine g2 86 89 (jb true) h86 (rf (.tup [])) fun h90=>gm h90 fun h91=>yY h91 ?_
   iterate 2 refine yY h91 ?_
   refine g2 91 94 (jb true) h91 (rf (.tup [])) fun h95=>gm h95 fun h96=>yY h96 ?_
   iterate 2 refine yY h96 ?_
   refine g2 96 99 (jb true) h96 (rf (.tup [])) fun h100=>gm h100 fun h101=>yY h101 ?_
   iterate 3 refine yY h101 ?_
   refine g2 101 105 (jb true) h101 (rf (.tup [])) fun h106=>gz [(2,_),(3,_),(4,_),(5,_),(6,_),(9,_),(13,_),(14,_),(15,_),(106,_)] ⟨h2,h3,h4,h5,h6,h9,h13,h14,h15,h106⟩ ?_
   rintro s ⟨h2,h3,h4,h5,h6,h9,h13,h14,h15,h106⟩
   exact JD H r3 r4 r6 r9 r10 true _ ⟨h2,h3,h4,h5,h6,h9,h13,h14,h15,h106⟩ h
 refine zt (ct h80 hg4) (g1 5 (gV r4.1) h5 fun h81=>zt (ct h80 hg4) (g1 7 (gV r5.1) h7 fun h82=>?_))
 obtain ⟨r43,Er43,h⟩:=zc h
 refine zt (ct h80 hg4) (gcF [Enc.enc (r4.1:GR),Enc.enc (r5.1:GR)] (zh h81 rfl (Enc.erase_enc (r4.1:GR)) (zh h82 rfl (Enc.erase_enc (r5.1:GR)) zI)) (H.c14 _ _ _ Er43) H.g14 (zt (ct h80 hg4) (g1 83 (jb (!r43)) (rf (jb r43)) fun h84=>g2 80 84 (jb (!r43)) (ct h80 hg4) h84 fun h85=>gm h85 fun h86=>yj h (fun hg10 h=>?_) (fun hg10 h=>?_))))
 · iterate 3 refine yY (ct h86 hg10) ?_
   refine g2 86 89 (jb true) (ct h86 hg10) (rf (.tup [])) fun h90=>gm h90 fun h91=>yY h91 ?_
   iterate 2 refine yY h91 ?_
   refine g2 91 94 (jb true) h91 (rf (.tup [])) fun h95=>gm h95 fun h96=>yY h96 ?_
   iterate 2 refine yY h96 ?_
   refine g2 96 99 (jb true) h96 (rf (.tup [])) fun h100=>gm h100 fun h101=>yY h101 ?_
   iterate 3 refine yY h101 ?_
   refine g2 101 105 (jb true) h101 (rf (.tup [])) fun h106=>gz [(2,_),(3,_),(4,_),(5,_),(6,_),(9,_),(13,_),(14,_),(15,_),(106,_)] ⟨h2,h3,h4,h5,h6,h9,h13,h14,h15,h106⟩ ?_
   rintro s ⟨h2,h3,h4,h5,h6,h9,h13,h14,h15,h106⟩
   exact JD H r3 r4 r6 r9 r10 true _ ⟨h2,h3,h4,h5,h6,h9,h13,h14,h15,h106⟩ h
 refine zt (ct h86 hg10) (gm h9 fun h87=>zt (ct h86 hg10) (gm h11 fun h88=>zt (ct h86 hg10) (g2 87 88 (jb (r6.1 != r7.1)) h87 h88 fun h89=>g2 86 89 (jb (r6.1 != r7.1)) (ct h86 hg10) h89 fun h90=>gm h90 fun h91=>yj h (fun hg15 h=>?_) (fun hg15 h=>?_))))
 · iterate 3 refine yY (ct h91 hg15) ?_
   refine g2 91 94 (jb true) (ct h91 hg15) (rf (.tup [])) fun h95=>gm h95 fun h96=>yY h96 ?_
   iterate 2 refine yY h96 ?_
   refine g2 96 99 (jb true) h96 (rf (.tup [])) fun h100=>gm h100 fun h101=>yY h101 ?_
   iterate 3 refine yY h101 ?_
   refine g2 101 105 (jb true) h101 (rf (.tup [])) fun h106=>gz [(2,_),(3,_),(4,_),(5,_),(6,_),(9,_),(13,_),(14,_),(15,_),(106,_)] ⟨h2,h3,h4,h5,h6,h9,h13,h14,h15,h106⟩ ?_
   rintro s ⟨h2,h3,h4,h5,h6,h9,h13,h14,h15,h106⟩
   exact JD H r3 r4 r6 r9 r10 true _ ⟨h2,h3,h4,h5,h6,h9,h13,h14,h15,h106⟩ h
 refine zt (ct h91 hg15) (gm h10 fun h92=>zt (ct h91 hg15) (gm h12 fun h93=>zt (ct h91 hg15) (g2 92 93 (jb (r6.2 != r7.2)) h92 h93 fun h94=>g2 91 94 (jb (r6.2 != r7.2)) (ct h91 hg15) h94 fun h95=>gm h95 fun h96=>yj h (fun hg20 h=>?_) (fun hg20 h=>?_))))
 · iterate 3 refine yY (ct h96 hg20) ?_
   refine g2 96 99 (jb true) (ct h96 hg20) (rf (.tup [])) fun h100=>gm h100 fun h101=>yY h101 ?_
   iterate 3 refine yY h101 ?_
   refine g2 101 105 (jb true) h101 (rf (.tup [])) fun h106=>gz [(2,_),(3,_),(4,_),(5,_),(6,_),(9,_),(13,_),(14,_),(15,_),(106,_)] ⟨h2,h3,h4,h5,h6,h9,h13,h14,h15,h106⟩ ?_
   rintro s ⟨h2,h3,h4,h5,h6,h9,h13,h14,h15,h106⟩
   exact JD H r3 r4 r6 r9 r10 true _ ⟨h2,h3,h4,h5,h6,h9,h13,h14,h15,h106⟩ h
 refine zt (ct h96 hg20) (gm h15 fun h97=>zt (ct h96 hg20) (gm h17 fun h98=>zt (ct h96 hg20) (g2 97 98 (jb (r10.2 != r11.2)) h97 h98 fun h99=>g2 96 99 (jb (r10.2 != r11.2)) (ct h96 hg20) h99 fun h100=>gm h100 fun h101=>yj h (fun hg25 h=>?_) (fun hg25 h=>?_))))
 · iterate 4 refine yY (ct h101 hg25) ?_
   refine g2 101 105 (jb true) (ct h101 hg25) (rf (.tup [])) fun h106=>gz [(2,_),(3,_),(4,_),(5,_),(6,_),(9,_),(13,_),(14,_),(15,_),(106,_)] ⟨h2,h3,h4,h5,h6,h9,h13,h14,h15,h106⟩ ?_
   rintro s ⟨h2,h3,h4,h5,h6,h9,h13,h14,h15,h106⟩
   exact JD H r3 r4 r6 r9 r10 true _ ⟨h2,h3,h4,h5,h6,h9,h13,h14,h15,h106⟩ h
 refine zt (ct h101 hg25) (gm h14 fun h102=>zt (ct h101 hg25) (gm h16 fun h103=>?_))
 obtain ⟨r44,Er44,h⟩:=zc h
 refine zt (ct h101 hg25) (gcF [eL r10.1,eL r11.1] (zh h102 rfl (Enc.erase_enc (r10.1:LI)) (zh h103 rfl (Enc.erase_enc (r11.1:LI)) zI)) (H.c15 _ _ _ Er44) H.g15 (zt (ct h101 hg25) (g1 104 (jb (!r44)) (rf (jb r44)) fun h105=>g2 101 105 (jb (!r44)) (ct h101 hg25) h105 fun h106=>gz [(2,_),(3,_),(4,_),(5,_),(6,_),(9,_),(13,_),(14,_),(15,_),(106,_)] ⟨h2,h3,h4,h5,h6,h9,h13,h14,h15,h106⟩ ?_)))
 rintro s ⟨h2,h3,h4,h5,h6,h9,h13,h14,h15,h106⟩
 exact JD H r3 r4 r6 r9 r10 (!r44) _ ⟨h2,h3,h4,h5,h6,h9,h13,h14,h15,h106⟩ h
end
def e3 (F:Nat):Ent:=ent 3 (fun (x:(LB×Unit))=>v7 F x.1) (fun (r:Bool)=>(Enc.enc (r:Bool))) 0 false []
theorem p3 {F:Nat} {x0:LB} {r:Bool} (h:v7 F x0=some r):(e3 F).den [Enc.enc x0]=some (Enc.enc (r:Bool)):=zS (x0,()) h
theorem o3 (hF:zF Try.prog D σ) (H:H3 D σ F):(e3 F).Ok Try.prog:=okZ (f:=3) Try.func3 fun ⟨x0,_⟩ y hy=>cR hF Try.func3 c3 (t3 H x0 _ rfl hy)
end Go.Zq
