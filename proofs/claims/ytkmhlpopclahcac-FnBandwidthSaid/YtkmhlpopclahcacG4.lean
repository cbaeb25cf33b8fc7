/- Functions of the program as typed functions, and that the machine runs as they say (part 4). No further condition. -/
import Derived.Test.YtkmhlpopclahcacK4
import Derived.Test.YtkmhlpopclahcacKC
import Derived.Test.YtkmhlpopclahcacProg
import Derived.Test.YtkmhlpopclahcacChecked
import Derived.KernelRfl
import Derived.Test.YtkmhlpopclahcacG3
set_option linter.unusedVariables false
set_option linter.unusedSimpArgs false
namespace Go.Zq
open Go.Proofs Go.Shelf
variable {D:Den} {σ:Sig} {F:Nat}
def zsz:AC:=(.cond (.t 16) .skip (.exit 0))
def zpq:AC:=(.cond (.t 22) .skip (.exit 2))
def zrY:AC:=(.cond (.t 29) (.exit 3) .skip)
def ziH:AC:=(.cond (.t 53) (rr [jm 54 7,jm 5 54]) .skip)
def znx:AC:=(.seq (rr [jm 47 5,jv 48 (.bin .lss (.t 47) (jn 0)),jm 49 48,jg 50 49 false (.mov (.t 7)),jg 51 49 false (.mov (.t 5)),jg 52 49 false (.bin .lss (.t 50) (.t 51)),jv 53 (.pick (.t 49) kt (.t 52))]) ziH)
def zl8:AC:=(.seq (rr [jv 30 (.load (.ag [.s,.p]) (.t 1)),jv 31 (.fld (.t 1) 0 0),jl 32 31,jm 33 4,jm 34 6,jv 35 (.bin .shl (jn 1) (.t 34)),jv 36 (.bin .add (.t 33) (.t 35)),jx 37 (.call (jf 40) [.t 32,.t 36]),jx 38 (.call (jf 39) [.t 30,.t 37]),jm 39 3,jm 40 4,jm 41 6,jv 42 (.bin .shl (jn 1) (.t 41)),jv 43 (.bin .add (.t 40) (.t 42)),jv 44 (.idx (.t 39) (.t 43) 1),jl 45 44,jx 46 (.call (jf 43) [.t 38,.t 45]),jm 7 46]) znx)
def zdE:AC:=(rr [jm 23 6,jv 24 (.bin .add (.t 23) (jn 1)),jm 6 24])
def zrL:AC:=(.seq (.block 3 (.seq (.seq (rr [jm 25 4,jm 26 6,jv 27 (.bin .shr (.t 25) (.t 26)),jv 28 (.bin .and (.t 27) (jn 1)),jv 29 (.bin .eql (.t 28) (jn 1))]) zrY) zl8)) zdE)
def JX:AC:=(.seq (.seq (rr [jm 19 6,jv 20 (.fld (.t 1) 0 0),jl 21 20,jv 22 (.bin .lss (.t 19) (.t 21))]) zpq) zrL)
def zpG:AC:=(.block 2 (.loop JX))
def KQ:AC:=(rr [jm 55 3,jm 56 4,jm 57 5,jv 58 (.idx (.t 55) (.t 56) 1),jz (.store .s (.t 58) (.t 57))])
def zts:AC:=(.seq (.seq (rr [jv 6 (.mov (jn 0))]) zpG) KQ)
def KS:AC:=(rr [jm 17 4,jv 18 (.bin .sub (.t 17) (jn 1)),jm 4 18])
def zul:AC:=(.seq (.block 1 (.seq (rr [jv 5 (.mov (jn (-1)))]) zts)) KS)
def X8:AC:=(.seq (.seq (rr [jm 15 4,jv 16 (.bin .geq (.t 15) (jn 0))]) zsz) zul)
def Wh:AC:=(.seq (.reg [] [jm 59 3,jm 2 59] [.home 3 2]) .ret)
def zoc:AC:=(.block 0 (.loop X8))
def zob:AC:=(.seq (.seq (rr [jm 12 3,jk 13 12,jv 14 (.bin .sub (.t 13) (jn 2)),jm 4 14]) zoc) Wh)
def zmm:AC:=(.seq (.reg [.clr [11]] [jv 8 (.fld (.t 1) 0 0),jl 9 8,jv 10 (.bin .shl (jn 1) (.t 9)),jx 11 (.mk (.t 10) i0 i0),jm 3 11] [.home 11 3]) zob)
def A38:AC:=(.seq (.reg [.clr [1]] [jx 1 (.box (.t 0)),jv 2 (.mov (.k (.sl .nl .s 0 [])))] []) zmm)
def zuB:List An:=[⟨0,[.clr [1]],[],[],[]⟩,⟨1,[.clr [11]],[],[],[.home 11 3]⟩,⟨14,[],[],[],[.home 3 2]⟩]
theorem c38:cq Try.prog Try.f38 zuB=some A38:=by kernel_rfl
structure H38 (D:Den) (σ:Sig) (F:Nat):Prop where
 c40:C40 (D 40) F
 g40:σ 40=some (0,false)
 c39:C39 (D 39) F
 g39:σ 39=some (0,false)
 c43:C43 (D 43) F
 g43:σ 43=some (0,false)
abbrev R38 (r:LI):(Nat→V)→Prop:=RR Try.prog [.tmp 2] 0 false (eL r)
section
variable {r:LI}
def Yo (F:Nat) (x1:GR) (x34:LI) (x35:Int) (x76:Int) (c1:LI→Int→Option LI) (c4:Int→Int→Option LI) (x94:Int):Option LI:=
 c4 x94 (w64 (x76 + 1))
theorem zbM (H:H38 D σ F) (x1:GR) (x34:LI) (x35:Int) (x76:Int) (c1:LI→Int→Option LI) (Hc1:∀ (x34:LI) (x35:Int) (s:Nat→V),zk [(1,bG 1 x1),(2,nI),(3,oI 3 [] (.of x34)),(4,ji x35)] s→c1 x34 x35=some r→Run D σ (R38 r) (.run X8 [.lp X8,.bk 0,.sq Wh]) s) (c4:Int→Int→Option LI) (Hc4:∀ (x75:Int) (x76:Int) (s:Nat→V),zk [(1,bG 1 x1),(2,nI),(3,oI 3 [] (.of x34)),(4,ji x35),(5,ji x75),(6,ji x76)] s→c4 x75 x76=some r→Run D σ (R38 r) (.run JX [.lp JX,.bk 2,.sq KQ,.bk 1,.sq KS,.lp X8,.bk 0,.sq Wh]) s) (x94:Int) (s:Nat→V) (hs:zk [(1,bG 1 x1),(2,nI),(3,oI 3 [] (.of x34)),(4,ji x35),(5,ji x94),(6,ji x76)] s) (h:Yo F x1 x34 x35 x76 c1 c4 x94=some r):Run D σ (R38 r) (.nrm [.bk 3,.sq zdE,.lp JX,.bk 2,.sq KQ,.bk 1,.sq KS,.lp X8,.bk 0,.sq Wh]) s:=by
 unfold Yo at h
 obtain ⟨h1,h2,h3,h4,h5,h6⟩:=hs
 refine .nbk (.nsq (rg (gm h6 fun h23=>g1 23 (ji (w64 (x76 + 1))) h23 fun h24=>gm h24 fun h6=>gq (.nlp ?_))))
 exact Hc4 x94 (w64 (x76 + 1)) _ ⟨h1,h2,h3,h4,h5,h6⟩ h
def Yg (F:Nat) (x1:GR) (x34:LI) (x35:Int) (x75:Int) (x76:Int) (r92:Int) (c1:LI→Int→Option LI) (c4:Int→Int→Option LI) (x93:Bool):Option LI:=
 bif x93 then
  Yo F x1 x34 x35 x76 c1 c4 r92
 else
  Yo F x1 x34 x35 x76 c1 c4 x75
theorem zbP (H:H38 D σ F) (x1:GR) (x34:LI) (x35:Int) (x75:Int) (x76:Int) (r92:Int) (c1:LI→Int→Option LI) (Hc1:∀ (x34:LI) (x35:Int) (s:Nat→V),zk [(1,bG 1 x1),(2,nI),(3,oI 3 [] (.of x34)),(4,ji x35)] s→c1 x34 x35=some r→Run D σ (R38 r) (.run X8 [.lp X8,.bk 0,.sq Wh]) s) (c4:Int→Int→Option LI) (Hc4:∀ (x75:Int) (x76:Int) (s:Nat→V),zk [(1,bG 1 x1),(2,nI),(3,oI 3 [] (.of x34)),(4,ji x35),(5,ji x75),(6,ji x76)] s→c4 x75 x76=some r→Run D σ (R38 r) (.run JX [.lp JX,.bk 2,.sq KQ,.bk 1,.sq KS,.lp X8,.bk 0,.sq Wh]) s) (x93:Bool) (s:Nat→V) (hs:zk [(1,bG 1 x1),(2,nI),(3,oI 3 [] (.of x34)),(4,ji x35),(5,ji x75),(6,ji x76),(7,ji r92),(53,jb x93)] s) (h:Yg F x1 x34 x35 x75 x76 r92 c1 c4 x93=some r):Run D σ (R38 r) (.nrm [.sq ziH,.bk 3,.sq zdE,.lp JX,.bk 2,.sq KQ,.bk 1,.sq KS,.lp X8,.bk 0,.sq Wh]) s:=by
 unfold Yg at h
 obtain ⟨h1,h2,h3,h4,h5,h6,h7,h53⟩:=hs
 refine .nsq (zg h53 h (fun h=>?_) (fun h=>?_))
 · refine rg (gm h7 fun h54=>gm h54 fun h5=>gq ?_)
   exact zbM H x1 x34 x35 x76 c1 Hc1 c4 Hc4 r92 _ ⟨h1,h2,h3,h4,h5,h6⟩ h
 refine .skip ?_
 exact zbM H x1 x34 x35 x76 c1 Hc1 c4 Hc4 x75 _ ⟨h1,h2,h3,h4,h5,h6⟩ h
def xO (F:Nat) (x1:GR) (x34:LI) (x35:Int) (c1:LI→Int→Option LI):Nat→Int→Int→Option LI
 | 0,_,_=>none
 | k + 1,x75,x76=>
   bif decide (x76 < x1.1) then
    (Wk .i64 x35 x76).bind fun q86=>
    bif ((yp .i64 q86 1) == 1) then
     (xO F x1 x34 x35 c1 k) x75 (w64 (x76 + 1))
    else
     (uB .i64 1 x76).bind fun q87=>
     (ZH F x1.1 (w64 (x35 + q87))).bind fun r88=>
     (ZM F x1 r88).bind fun r89=>
     (uB .i64 1 x76).bind fun q90=>
     (idx x34 (w64 (x35 + q90))).bind fun v91=>
     (ua F r89 v91).bind fun r92=>
     bif decide (x75 < 0) then
      Yg F x1 x34 x35 x75 x76 r92 c1 (xO F x1 x34 x35 c1 k) true
     else
      Yg F x1 x34 x35 x75 x76 r92 c1 (xO F x1 x34 x35 c1 k) (decide (r92 < x75))
   else
    (idx x34 x35).bind fun v95=>
    c1 (x34.set x35.toNat x75) (w64 (x35 - 1))
theorem zig (H:H38 D σ F) (x1:GR) (x34:LI) (x35:Int) (c1:LI→Int→Option LI) (Hc1:∀ (x34:LI) (x35:Int) (s:Nat→V),zk [(1,bG 1 x1),(2,nI),(3,oI 3 [] (.of x34)),(4,ji x35)] s→c1 x34 x35=some r→Run D σ (R38 r) (.run X8 [.lp X8,.bk 0,.sq Wh]) s):∀ (k:Nat) (x75:Int) (x76:Int) (s:Nat→V),zk [(1,bG 1 x1),(2,nI),(3,oI 3 [] (.of x34)),(4,ji x35),(5,ji x75),(6,ji x76)] s→xO F x1 x34 x35 c1 k x75 x76=some r→Run D σ (R38 r) (.run JX [.lp JX,.bk 2,.sq KQ,.bk 1,.sq KS,.lp X8,.bk 0,.sq Wh]) s:=by
 intro k
 induction k with
 | zero=>intro x75 x76 s _ h;exact nm h
 | succ k ih=>
   intro x75 x76 s hs h
   rw [xO] at h
   obtain ⟨h1,h2,h3,h4,h5,h6⟩:=hs
   refine .seq (.seq (rg (gm h6 fun h19=>g1 1 (.ref (.bx 1) 0 [0] (ji x1.1)) h1 fun h20=>g1 20 (ji x1.1) h20 fun h21=>g2 19 21 (jb (decide (x76 < x1.1))) h19 h21 fun h22=>gq (.nsq (zg h22 h (fun h=>?_) (fun h=>?_))))))
   · refine .skip (.nsq (.seq (.block (.seq (.seq (rg (gm h4 fun h25=>gm h6 fun h26=>?_)))))))
     obtain ⟨q86,Eq86,h⟩:=bind_some h
     refine gv (ji q86) (YA h25 h26 Eq86) fun h27=>g1 27 (ji (yp .i64 q86 1)) h27 fun h28=>g1 28 (jb ((yp .i64 q86 1) == 1)) h28 fun h29=>gq (.nsq (zg h29 h (fun h=>?_) (fun h=>?_)))
     · refine .exit (.esq (.ebk (.nsq (rg (gm h6 fun h23=>g1 23 (ji (w64 (x76 + 1))) h23 fun h24=>gm h24 fun h6=>gq (.nlp ?_))))))
       exact ih x75 (w64 (x76 + 1)) _ ⟨h1,h2,h3,h4,h5,h6⟩ h
     refine .skip (.nsq (.seq (rg (g1 1 (gV x1) h1 fun h30=>g1 1 (.ref (.bx 1) 0 [0] (ji x1.1)) h1 fun h31=>g1 31 (ji x1.1) h31 fun h32=>gm h4 fun h33=>gm h6 fun h34=>?_))))
     obtain ⟨q87,Eq87,h⟩:=bind_some h
     refine gv (ji q87) (vW rfl h34 Eq87) fun h35=>g2 33 35 (ji (w64 (x35 + q87))) h33 h35 fun h36=>?_
     obtain ⟨r88,Er88,h⟩:=bind_some h
     refine zy (m:=0) (al:=false) (r:=eL r88) [Enc.enc (x1.1:Int),Enc.enc (w64 (x35 + q87):Int)] (zc (v:=ji x1.1) h32 rfl rfl (zc (v:=ji (w64 (x35 + q87))) h36 rfl rfl zp)) (H.c40 _ _ _ Er88) H.g40 rfl rfl rfl rfl ?_
     obtain ⟨r89,Er89,h⟩:=bind_some h
     refine zy (m:=0) (al:=false) (r:=Enc.enc (r89:Int)) [Enc.enc (x1:GR),eL r88] (zc (v:=gV x1) h30 rfl (Enc.erase_enc (x1:GR)) (zc (v:=eL r88) rfl rfl (Enc.erase_enc (r88:LI)) zp)) (H.c39 _ _ _ Er89) H.g39 rfl rfl rfl rfl (gm h3 fun h39=>gm h4 fun h40=>gm h6 fun h41=>?_)
     obtain ⟨q90,Eq90,h⟩:=bind_some h
     refine gv (ji q90) (vW rfl h41 Eq90) fun h42=>g2 40 42 (ji (w64 (x35 + q90))) h40 h42 fun h43=>?_
     obtain ⟨v91,Ev91,h⟩:=bind_some h
     refine gv (.ref (.at 3 []) ((w64 (x35 + q90)).toNat) [] (ji v91)) (wU (o:=.of x34) h39 h43 Ev91 rfl) fun h44=>g1 44 (ji v91) h44 fun h45=>?_
     obtain ⟨r92,Er92,h⟩:=bind_some h
     refine zy (m:=0) (al:=false) (r:=Enc.enc (r92:Int)) [Enc.enc (r89:Int),Enc.enc (v91:Int)] (zc (v:=ji r89) rfl rfl rfl (zc (v:=ji v91) h45 rfl rfl zp)) (H.c43 _ _ _ Er92) H.g43 rfl rfl rfl rfl (gm (rf (ji r92)) fun h7=>gz [(1,_),(2,_),(3,_),(4,_),(5,_),(6,_),(7,_)] ⟨h1,h2,h3,h4,h5,h6,h7⟩ ?_)
     rintro s ⟨h1,h2,h3,h4,h5,h6,h7⟩
     refine .nsq (.seq (rg (gm h5 fun h47=>g1 47 (jb (decide (x75 < 0))) h47 fun h48=>gm h48 fun h49=>zU h (fun hg3 h=>?_) (fun hg3 h=>?_))))
     · iterate 3 refine zw (ct h49 hg3) ?_
       refine g2 49 52 (jb true) (ct h49 hg3) (rf (.tup [])) fun h53=>gq ?_
       exact zbP H x1 x34 x35 x75 x76 r92 c1 Hc1 (xO F x1 x34 x35 c1 k) ih true _ ⟨h1,h2,h3,h4,h5,h6,h7,h53⟩ h
     refine zh (ct h49 hg3) (gm h7 fun h50=>zh (ct h49 hg3) (gm h5 fun h51=>zh (ct h49 hg3) (g2 50 51 (jb (decide (r92 < x75))) h50 h51 fun h52=>g2 49 52 (jb (decide (r92 < x75))) (ct h49 hg3) h52 fun h53=>gq ?_)))
     exact zbP H x1 x34 x35 x75 x76 r92 c1 Hc1 (xO F x1 x34 x35 c1 k) ih (decide (r92 < x75)) _ ⟨h1,h2,h3,h4,h5,h6,h7,h53⟩ h
   refine .exit (.esq (.elp (.ebk (.nsq (rg (gm h3 fun h55=>gm h4 fun h56=>gm h5 fun h57=>?_))))))
   obtain ⟨v95,Ev95,h⟩:=bind_some h
   refine gv (.ref (.at 3 []) x35.toNat [] (ji v95)) (wU (o:=.of x34) h55 h56 Ev95 rfl) fun h58=>yd (ji x75) (zx h58 rfl) (zx h57 rfl) (ww (by first | rfl | simp [V.toks,V.tokss,Enc.toks_enc,ya])) (gz [(1,bG 1 x1),(2,nI),(3,_),(4,ji x35)] ⟨zd h1 (zH rfl rfl uIE),zd h2 rfl,zd h3 Xh,zd h4 rfl⟩ ?_)
   rintro s ⟨h1,h2,h3,h4⟩
   refine .nbk (.nsq (rg (gm h4 fun h17=>g1 17 (ji (w64 (x35 - 1))) h17 fun h18=>gm h18 fun h4=>gq (.nlp ?_))))
   exact Hc1 (x34.set x35.toNat x75) (w64 (x35 - 1)) _ ⟨h1,h2,h3,h4⟩ h
def wc (F:Nat) (x1:GR) :Nat→LI→Int→Option LI
 | 0,_,_=>none
 | k + 1,x34,x35=>
   bif decide (x35≥0) then
    xO F x1 x34 x35 (wc F x1 k) F (-1) 0
   else
    some x34
theorem zhu (H:H38 D σ F) (x1:GR) :∀ (k:Nat) (x34:LI) (x35:Int) (s:Nat→V),zk [(1,bG 1 x1),(2,nI),(3,oI 3 [] (.of x34)),(4,ji x35)] s→wc F x1 k x34 x35=some r→Run D σ (R38 r) (.run X8 [.lp X8,.bk 0,.sq Wh]) s:=by
 intro k
 induction k with
 | zero=>intro x34 x35 s _ h;exact nm h
 | succ k ih=>
   intro x34 x35 s hs h
   rw [wc] at h
   obtain ⟨h1,h2,h3,h4⟩:=hs
   refine .seq (.seq (rg (gm h4 fun h15=>g1 15 (jb (decide (x35≥0))) h15 fun h16=>gq (.nsq (zg h16 h (fun h=>?_) (fun h=>?_))))))
   · refine .skip (.nsq (.seq (.block (.seq (rg (g0 (ji (-1)) fun h5=>gq (.nsq (.seq (.seq (rg (g0 (ji 0) fun h6=>gq (.nsq (.block (.loop ?_))))))))))))))
     exact zig H x1 x34 x35 (wc F x1 k) ih F (-1) 0 _ ⟨h1,h2,h3,h4,h5,h6⟩ h
   refine .exit (.esq (.elp (.ebk (.nsq (.seq (rg (gm h3 fun h59=>gm h59 fun h2=>yL (yr (r:=3) (x:=2) (v:=_) h2 rfl (fun s4 hz4=>?_)))))))))
   refine ez [(2,oI 2 [] (.of x34))] (hz4 2 _ _ h2 (zl (r:=3) (p:=[]) rfl rfl)) ?_
   rintro s h2
   refine .nsq (.ret ?_)
   obtain rfl:=oi h
   exact rrA (zf h2) (ud (wl (o:=.of x34)) (wx rfl))
def YK (F:Nat) (x1:GR):Option LI:=
 (uB .i64 1 x1.1).bind fun q2=>
 (mkN q2 (0:Int)).bind fun mk3=>
 wc F x1 F mk3 (w64 ((mk3.length:Int) - 2))
theorem t38 (H:H38 D σ F) (x1:GR) (s:Nat→V) (hs:zk [(0,gV x1)] s) (h:YK F x1=some r):Run D σ (R38 r) (.run A38 []) s:=by
 unfold YK at h
 have h0:=hs
 refine .seq (zo (zT ?_))
 refine ez [(0,_),(1,_)] ⟨za h0 rfl mIE,zb rfl⟩ ?_
 rintro s ⟨h0,h1⟩
 refine xo (gV x1) (zx h0 rfl) h1 rfl (g0 nI fun h2=>gq (.nsq (.seq (zo (zT ?_)))))
 refine ez [(1,_),(2,_),(11,_)] ⟨za rfl rfl (zi rfl mIE),za h2 rfl rfl,zb rfl⟩ ?_
 rintro s ⟨h1,h2,h11⟩
 refine g1 1 (.ref (.bx 1) 0 [0] (ji x1.1)) h1 fun h8=>g1 8 (ji x1.1) h8 fun h9=>?_
 obtain ⟨q2,Eq2,h⟩:=bind_some h
 refine gv (ji q2) (vW rfl h9 Eq2) fun h10=>?_
 obtain ⟨mk3,Emk3,h⟩:=bind_some h
 refine zkL (0:Int) h10 rfl h11 Emk3 (gm (rf (oI 11 [] (.of mk3))) fun h3=>yL (yr (r:=11) (x:=3) (v:=_) h3 rfl (fun s3 hz3=>?_)))
 refine ez [(1,bG 1 x1),(2,nI),(3,oI 3 [] (.of mk3))] ⟨hz3 1 _ _ h1 (zi rfl mIE),hz3 2 _ _ h2 rfl,hz3 3 _ _ h3 (zl (r:=11) (p:=[]) rfl rfl)⟩ ?_
 rintro s ⟨h1,h2,h3⟩
 refine .nsq (.seq (.seq (rg (gm h3 fun h12=>gv (ji (mk3.length:Int)) (J3 (o:=.of mk3) h12) fun h13=>g1 13 (ji (w64 ((mk3.length:Int) - 2))) h13 fun h14=>gm h14 fun h4=>gq (.nsq (.block (.loop ?_)))))))
 exact zhu H x1 F mk3 (w64 ((mk3.length:Int) - 2)) _ ⟨h1,h2,h3,h4⟩ h
end
def e38 (F:Nat):Ent:=ent 38 (fun (x:(GR×Unit))=>YK F x.1) (fun (r:LI)=>(eL r)) 0 false []
abbrev C38 (D:List V→Option V) (F:Nat):Prop:=∀ (x0:GR) r,YK F x0=some r→D [Enc.enc x0]=some (eL r)
theorem p38 {F:Nat}:C38 (e38 F).den F:=fun x0 _ h=>zK (x0,()) h
theorem o38 (hF:zr Try.prog D σ) (H:H38 D σ F):(e38 F).Ok Try.prog:=okZ (f:=38) Try.func38 fun ⟨x0,_⟩ y hy=>cR hF Try.func38 c38 (t38 H x0 _ rfl hy)
def zoX:AC:=(.cond (.t 20) .skip (.exit 0))
def zlG:AC:=(.cond (.t 53) .skip (.exit 2))
def zlQ:AC:=(.block 3 (rr [jm 54 8,jv 55 (.bin .add (.t 54) (jn 1)),jm 8 55]))
def Qw:AC:=(.seq (.seq (rr [jm 21 7,jm 22 8,jv 23 (.bin .shr (.t 21) (.t 22)),jv 24 (.bin .and (.t 23) (jn 1)),jv 25 (.bin .eql (.t 24) (jn 1)),jm 26 25,jg 27 26 false (.load (.ag [.s,.p]) (.t 1)),jg 28 26 false (.fld (.t 1) 0 0),jg 29 26 false (.load .s (.t 28)),jg 30 26 false (.mov (.t 7)),jg 31 26 false (.mov (.t 8)),jg 32 26 false (.bin .shl (jn 1) (.t 31)),jg 33 26 false (.bin .add (.t 30) (.t 32)),.mk (some 34) (some (26,false)) false (.call (jf 40) [.t 29,.t 33]),.mk (some 35) (some (26,false)) false (.call (jf 39) [.t 27,.t 34]),jg 36 26 false (.mov (.t 6)),jg 37 26 false (.idx (.t 36) (jn 0) 1),jg 38 26 false (.load .s (.t 37)),jg 39 26 false (.bin .gtr (.t 35) (.t 38)),jv 40 (.pick (.t 26) kt (.t 39)),jm 41 40,jg 42 41 false (.mov (.t 6)),jg 43 41 false (.mov (.t 7)),jg 44 41 false (.mov (.t 8)),jg 45 41 false (.bin .shl (jn 1) (.t 44)),jg 46 41 false (.bin .add (.t 43) (.t 45)),jg 47 41 false (.idx (.t 42) (.t 46) 1),jg 48 41 false (.load .s (.t 47)),jg 49 41 false (.mov (.t 6)),jg 50 41 false (.idx (.t 49) (jn 0) 1),jg 51 41 false (.load .s (.t 50)),jg 52 41 false (.bin .gtr (.t 48) (.t 51)),jv 53 (.pick (.t 41) kt (.t 52))]) zlG) zlQ)
def zqq:AC:=(rr [jm 60 7,jm 61 8,jv 62 (.bin .shl (jn 1) (.t 61)),jv 63 (.bin .add (.t 60) (.t 62)),jm 7 63])
def zeo:AC:=(.seq (.reg [.clr [58,59]] [jm 56 5,jm 57 8,jx 58 (.lit i0 1 [(0,0,.t 57)]),jx 59 (.app .s (.t 56) (.t 58)),jm 5 59] [.home 59 5]) zqq)
def zsL:AC:=(.seq (.block 2 (.loop Qw)) zeo)
def zp6:AC:=(.block 1 (.seq (rr [jv 8 (.mov (jn 0))]) zsL))
def Ju:AC:=(.seq (.seq (rr [jm 16 5,jk 17 16,jv 18 (.fld (.t 1) 0 0),jl 19 18,jv 20 (.bin .lss (.t 17) (.t 19))]) zoX) zp6)
def JE:AC:=(.seq (.reg [] [jm 64 5,jm 65 6,jv 66 (.idx (.t 65) (jn 0) 1),jl 67 66,jm 2 64,jm 3 67,jv 4 (.mov kt)] [.home 5 2]) .ret)
def zoe:AC:=(.cond (.t 12) (.seq (rr [jm 13 5,jm 2 13,jv 3 (.mov (jn 0)),jv 4 (.mov kf)]) .ret) .skip)
def znQ:AC:=(.seq (.block 0 (.loop Ju)) JE)
def zm5:AC:=(.seq (rr [jv 7 (.mov (jn 0))]) znQ)
def znT:AC:=(.seq (rr [jv 14 (.load (.ag [.s,.p]) (.t 1)),jx 15 (.call (jf 38) [.t 14]),jm 6 15]) zm5)
def zm4:AC:=(.seq (.seq (rr [jv 10 (.load (.ag [.s,.p]) (.t 1)),jx 11 (.call (jf 33) [.t 10]),jv 12 (.un .not (.t 11))]) zoe) znT)
def zn2:AC:=(.seq (.reg [.clr [9]] [jx 9 (.lit i0 0 []),jm 5 9] [.home 9 5]) zm4)
def A15:AC:=(.seq (.reg [.clr [1]] [jx 1 (.box (.t 0)),jv 2 (.mov (.k (.sl .nl .s 0 []))),jv 3 (.mov (jn 0)),jv 4 (.mov kf)] []) zn2)
def zuL:List An:=[⟨0,[.clr [1]],[],[],[]⟩,⟨1,[.clr [9]],[],[],[.home 9 5]⟩,⟨10,[.clr [58,59]],[],[],[.home 59 5]⟩,⟨12,[],[],[],[.home 5 2]⟩]
theorem c15:cq Try.prog Try.f15 zuL=some A15:=by kernel_rfl
structure H15 (D:Den) (σ:Sig) (F:Nat):Prop where
 c33:C33 (D 33) F
 g33:σ 33=some (0,false)
 c38:C38 (D 38) F
 g38:σ 38=some (0,false)
 c40:C40 (D 40) F
 g40:σ 40=some (0,false)
 c39:C39 (D 39) F
 g39:σ 39=some (0,false)
abbrev R15 (r:(S3 LI Int Bool)):(Nat→V)→Prop:=RR Try.prog [.tmp 2,.tmp 3,.tmp 4] 0 false (.tup [eL r.a,Enc.enc (r.b:Int),Enc.enc (r.c:Bool)])
section
variable {r:(S3 LI Int Bool)}
def xQ (F:Nat) (x1:GR) (x58:LI) (r3:LI) (x59:Int) (x131:Int) (c1:LI→Int→Option (S3 LI Int Bool)) (c4:Int→Option (S3 LI Int Bool)) (x157:Bool):Option (S3 LI Int Bool):=
 bif x157 then
  c4 (w64 (x131 + 1))
 else
  (wJ x58 [x131]).bind fun ap158=>
  (uB .i64 1 x131).bind fun q159=>
  c1 ap158 (w64 (x59 + q159))
theorem ML (H:H15 D σ F) (x1:GR) (x58:LI) (r3:LI) (x59:Int) (x131:Int) (c1:LI→Int→Option (S3 LI Int Bool)) (Hc1:∀ (x58:LI) (x59:Int) (s:Nat→V),zk [(1,bG 1 x1),(2,nI),(3,ji 0),(4,jb false),(5,oI 5 [] (.of x58)),(6,eL r3),(7,ji x59)] s→c1 x58 x59=some r→Run D σ (R15 r) (.run Ju [.lp Ju,.bk 0,.sq JE]) s) (c4:Int→Option (S3 LI Int Bool)) (Hc4:∀ (x131:Int) (s:Nat→V),zk [(1,bG 1 x1),(2,nI),(3,ji 0),(4,jb false),(5,oI 5 [] (.of x58)),(6,eL r3),(7,ji x59),(8,ji x131)] s→c4 x131=some r→Run D σ (R15 r) (.run Qw [.lp Qw,.bk 2,.sq zeo,.bk 1,.lp Ju,.bk 0,.sq JE]) s) (x157:Bool) (s:Nat→V) (hs:zk [(1,bG 1 x1),(2,nI),(3,ji 0),(4,jb false),(5,oI 5 [] (.of x58)),(6,eL r3),(7,ji x59),(8,ji x131),(53,jb x157)] s) (h:xQ F x1 x58 r3 x59 x131 c1 c4 x157=some r):Run D σ (R15 r) (.nrm [.sq zlG,.sq zlQ,.lp Qw,.bk 2,.sq zeo,.bk 1,.lp Ju,.bk 0,.sq JE]) s:=by
 unfold xQ at h
 obtain ⟨h1,h2,h3,h4,h5,h6,h7,h8,h53⟩:=hs
 refine .nsq (zg h53 h (fun h=>?_) (fun h=>?_))
 · refine .skip (.nsq (.block (rg (gm h8 fun h54=>g1 54 (ji (w64 (x131 + 1))) h54 fun h55=>gm h55 fun h8=>gq (.nbk (.nlp ?_))))))
   exact Hc4 (w64 (x131 + 1)) _ ⟨h1,h2,h3,h4,h5,h6,h7,h8⟩ h
 refine .exit (.esq (.elp (.ebk (.nsq (.seq (zo (zT ?_)))))))
 refine ez [(1,_),(2,_),(3,_),(4,_),(5,_),(6,_),(7,_),(8,_),(58,_),(59,_)] ⟨za h1 rfl (zi rfl mIE),za h2 rfl rfl,za h3 rfl mi,za h4 rfl mb,za h5 rfl (zl (r:=5) (p:=[]) rfl rfl),za h6 rfl me,za h7 rfl mi,za h8 rfl mi,zb rfl,zb rfl⟩ ?_
 rintro s ⟨h1,h2,h3,h4,h5,h6,h7,h8,h58,h59⟩
 refine gm h5 fun h56=>gm h8 fun h57=>xq [(57,ji x131)] [Enc.enc (x131:Int)] h57 rfl rfl h58 ?_
 obtain ⟨ap158,Eap158,h⟩:=bind_some h
 refine Xd (q:=5) (p:=[]) (o:=.of (x58:LI)) (ys:=([x131]:LI)) (t2:=.at 58 []) (lo2:=0) h56 rfl rfl h59 (ZB (o:=.of (x58:LI)) Eap158 trivial) (fun s11 ha11=>gm (rf (oI 59 [] (.of ap158))) fun h5=>yL (yr (r:=59) (x:=5) (v:=_) h5 rfl (fun s12 hz12=>?_)))
 refine ez [(1,bG 1 x1),(2,nI),(3,ji 0),(4,jb false),(5,oI 5 [] (.of ap158)),(6,eL r3),(7,ji x59),(8,ji x131)] ⟨hz12 1 _ _ (show s11 1=(bG 1 x1) from zL ha11 h1 (zi rfl mIE)) (zi rfl mIE),hz12 2 _ nI (show s11 2=nI from zL ha11 h2 rfl) rfl,hz12 3 _ _ (show s11 3=(ji 0) from zL ha11 h3 mi) mi,hz12 4 _ _ (show s11 4=(jb false) from zL ha11 h4 mb) mb,hz12 5 _ _ h5 (zl (r:=59) (p:=[]) rfl rfl),hz12 6 _ _ (show s11 6=(eL r3) from zL ha11 h6 me) me,hz12 7 _ _ (show s11 7=(ji x59) from zL ha11 h7 mi) mi,hz12 8 _ _ (show s11 8=(ji x131) from zL ha11 h8 mi) mi⟩ ?_
 rintro s ⟨h1,h2,h3,h4,h5,h6,h7,h8⟩
 refine .nsq (rg (gm h7 fun h60=>gm h8 fun h61=>?_))
 obtain ⟨q159,Eq159,h⟩:=bind_some h
 refine gv (ji q159) (vW rfl h61 Eq159) fun h62=>g2 60 62 (ji (w64 (x59 + q159))) h60 h62 fun h63=>gm h63 fun h7=>gq (.nbk (.nlp ?_))
 exact Hc1 ap158 (w64 (x59 + q159)) _ ⟨h1,h2,h3,h4,h5,h6,h7⟩ h
def yx (F:Nat) (x1:GR) (x58:LI) (r3:LI) (x59:Int) (c1:LI→Int→Option (S3 LI Int Bool)):Nat→Int→Option (S3 LI Int Bool)
 | 0,_=>none
 | k + 1,x131=>
   (Wk .i64 x59 x131).bind fun q160=>
   bif ((yp .i64 q160 1) == 1) then
    xQ F x1 x58 r3 x59 x131 c1 (yx F x1 x58 r3 x59 c1 k) true
   else
    (uB .i64 1 x131).bind fun q161=>
    (ZH F x1.1 (w64 (x59 + q161))).bind fun r162=>
    (ZM F x1 r162).bind fun r163=>
    (idx r3 0).bind fun v164=>
    bif decide (r163 > v164) then
     xQ F x1 x58 r3 x59 x131 c1 (yx F x1 x58 r3 x59 c1 k) true
    else
     (uB .i64 1 x131).bind fun q165=>
     (idx r3 (w64 (x59 + q165))).bind fun v166=>
     (idx r3 0).bind fun v167=>
     xQ F x1 x58 r3 x59 x131 c1 (yx F x1 x58 r3 x59 c1 k) (decide (v166 > v167))
theorem ziy (H:H15 D σ F) (x1:GR) (x58:LI) (r3:LI) (x59:Int) (c1:LI→Int→Option (S3 LI Int Bool)) (Hc1:∀ (x58:LI) (x59:Int) (s:Nat→V),zk [(1,bG 1 x1),(2,nI),(3,ji 0),(4,jb false),(5,oI 5 [] (.of x58)),(6,eL r3),(7,ji x59)] s→c1 x58 x59=some r→Run D σ (R15 r) (.run Ju [.lp Ju,.bk 0,.sq JE]) s):∀ (k:Nat) (x131:Int) (s:Nat→V),zk [(1,bG 1 x1),(2,nI),(3,ji 0),(4,jb false),(5,oI 5 [] (.of x58)),(6,eL r3),(7,ji x59),(8,ji x131)] s→yx F x1 x58 r3 x59 c1 k x131=some r→Run D σ (R15 r) (.run Qw [.lp Qw,.bk 2,.sq zeo,.bk 1,.lp Ju,.bk 0,.sq JE]) s:=by
 intro k
 induction k with
 | zero=>intro x131 s _ h;exact nm h
 | succ k ih=>
   intro x131 s hs h
   rw [yx] at h
   obtain ⟨h1,h2,h3,h4,h5,h6,h7,h8⟩:=hs
   refine .seq (.seq (rg (gm h7 fun h21=>gm h8 fun h22=>?_)))
   obtain ⟨q160,Eq160,h⟩:=bind_some h
   refine gv (ji q160) (YA h21 h22 Eq160) fun h23=>g1 23 (ji (yp .i64 q160 1)) h23 fun h24=>g1 24 (jb ((yp .i64 q160 1) == 1)) h24 fun h25=>gm h25 fun h26=>zU h (fun hg6 h=>?_) (fun hg6 h=>?_)
   · iterate 13 refine zw (ct h26 hg6) ?_
     refine g2 26 39 (jb true) (ct h26 hg6) (rf (.tup [])) fun h40=>gm h40 fun h41=>zw h41 ?_
     iterate 10 refine zw h41 ?_
     refine g2 41 52 (jb true) h41 (rf (.tup [])) fun h53=>gz [(1,_),(2,_),(3,_),(4,_),(5,_),(6,_),(7,_),(8,_),(53,_)] ⟨h1,h2,h3,h4,h5,h6,h7,h8,h53⟩ ?_
     rintro s ⟨h1,h2,h3,h4,h5,h6,h7,h8,h53⟩
     exact ML H x1 x58 r3 x59 x131 c1 Hc1 (yx F x1 x58 r3 x59 c1 k) ih true _ ⟨h1,h2,h3,h4,h5,h6,h7,h8,h53⟩ h
   refine zh (ct h26 hg6) (g1 1 (gV x1) h1 fun h27=>zh (ct h26 hg6) (g1 1 (.ref (.bx 1) 0 [0] (ji x1.1)) h1 fun h28=>zh (ct h26 hg6) (g1 28 (ji x1.1) h28 fun h29=>zh (ct h26 hg6) (gm h7 fun h30=>zh (ct h26 hg6) (gm h8 fun h31=>?_)))))
   obtain ⟨q161,Eq161,h⟩:=bind_some h
   refine zh (ct h26 hg6) (gv (ji q161) (vW rfl h31 Eq161) fun h32=>zh (ct h26 hg6) (g2 30 32 (ji (w64 (x59 + q161))) h30 h32 fun h33=>?_))
   obtain ⟨r162,Er162,h⟩:=bind_some h
   refine zh (ct h26 hg6) (zy (m:=0) (al:=false) (r:=eL r162) [Enc.enc (x1.1:Int),Enc.enc (w64 (x59 + q161):Int)] (zc (v:=ji x1.1) h29 rfl rfl (zc (v:=ji (w64 (x59 + q161))) h33 rfl rfl zp)) (H.c40 _ _ _ Er162) H.g40 rfl rfl rfl rfl ?_)
   obtain ⟨r163,Er163,h⟩:=bind_some h
   refine zh (ct h26 hg6) (zy (m:=0) (al:=false) (r:=Enc.enc (r163:Int)) [Enc.enc (x1:GR),eL r162] (zc (v:=gV x1) h27 rfl (Enc.erase_enc (x1:GR)) (zc (v:=eL r162) rfl rfl (Enc.erase_enc (r162:LI)) zp)) (H.c39 _ _ _ Er163) H.g39 rfl rfl rfl rfl (zh (ct h26 hg6) (gm h6 fun h36=>?_)))
   obtain ⟨v164,Ev164,h⟩:=bind_some h
   refine zh (ct h26 hg6) (gv (.ref .sh 0 [] (ji v164)) (yq (t:=.sh) (lo:=0) (xs:=r3) h36 rfl Ev164 rfl rfl) fun h37=>zh (ct h26 hg6) (g1 37 (ji v164) h37 fun h38=>zh (ct h26 hg6) (g2 35 38 (jb (decide (r163 > v164))) (rf (ji r163)) h38 fun h39=>g2 26 39 (jb (decide (r163 > v164))) (ct h26 hg6) h39 fun h40=>gm h40 fun h41=>zU h (fun hg21 h=>?_) (fun hg21 h=>?_))))
   · iterate 11 refine zw (ct h41 hg21) ?_
     refine g2 41 52 (jb true) (ct h41 hg21) (rf (.tup [])) fun h53=>gz [(1,_),(2,_),(3,_),(4,_),(5,_),(6,_),(7,_),(8,_),(53,_)] ⟨h1,h2,h3,h4,h5,h6,h7,h8,h53⟩ ?_
     rintro s ⟨h1,h2,h3,h4,h5,h6,h7,h8,h53⟩
     exact ML H x1 x58 r3 x59 x131 c1 Hc1 (yx F x1 x58 r3 x59 c1 k) ih true _ ⟨h1,h2,h3,h4,h5,h6,h7,h8,h53⟩ h
   refine zh (ct h41 hg21) (gm h6 fun h42=>zh (ct h41 hg21) (gm h7 fun h43=>zh (ct h41 hg21) (gm h8 fun h44=>?_)))
   obtain ⟨q165,Eq165,h⟩:=bind_some h
   refine zh (ct h41 hg21) (gv (ji q165) (vW rfl h44 Eq165) fun h45=>zh (ct h41 hg21) (g2 43 45 (ji (w64 (x59 + q165))) h43 h45 fun h46=>?_))
   obtain ⟨v166,Ev166,h⟩:=bind_some h
   refine zh (ct h41 hg21) (gv (.ref .sh 0 [] (ji v166)) (yq (t:=.sh) (lo:=0) (xs:=r3) h42 h46 Ev166 rfl rfl) fun h47=>zh (ct h41 hg21) (g1 47 (ji v166) h47 fun h48=>zh (ct h41 hg21) (gm h6 fun h49=>?_)))
   obtain ⟨v167,Ev167,h⟩:=bind_some h
   refine zh (ct h41 hg21) (gv (.ref .sh 0 [] (ji v167)) (yq (t:=.sh) (lo:=0) (xs:=r3) h49 rfl Ev167 rfl rfl) fun h50=>zh (ct h41 hg21) (g1 50 (ji v167) h50 fun h51=>zh (ct h41 hg21) (g2 48 51 (jb (decide (v166 > v167))) h48 h51 fun h52=>g2 41 52 (jb (decide (v166 > v167))) (ct h41 hg21) h52 fun h53=>gz [(1,_),(2,_),(3,_),(4,_),(5,_),(6,_),(7,_),(8,_),(53,_)] ⟨h1,h2,h3,h4,h5,h6,h7,h8,h53⟩ ?_)))
   rintro s ⟨h1,h2,h3,h4,h5,h6,h7,h8,h53⟩
   exact ML H x1 x58 r3 x59 x131 c1 Hc1 (yx F x1 x58 r3 x59 c1 k) ih (decide (v166 > v167)) _ ⟨h1,h2,h3,h4,h5,h6,h7,h8,h53⟩ h
def xc (F:Nat) (x1:GR) (r3:LI) :Nat→LI→Int→Option (S3 LI Int Bool)
 | 0,_,_=>none
 | k + 1,x58,x59=>
   bif decide ((x58.length:Int) < x1.1) then
    yx F x1 x58 r3 x59 (xc F x1 r3 k) F 0
   else
    (idx r3 0).bind fun v168=>
    some (S3.mk x58 v168 true)
theorem zhg (H:H15 D σ F) (x1:GR) (r3:LI) :∀ (k:Nat) (x58:LI) (x59:Int) (s:Nat→V),zk [(1,bG 1 x1),(2,nI),(3,ji 0),(4,jb false),(5,oI 5 [] (.of x58)),(6,eL r3),(7,ji x59)] s→xc F x1 r3 k x58 x59=some r→Run D σ (R15 r) (.run Ju [.lp Ju,.bk 0,.sq JE]) s:=by
 intro k
 induction k with
 | zero=>intro x58 x59 s _ h;exact nm h
 | succ k ih=>
   intro x58 x59 s hs h
   rw [xc] at h
   obtain ⟨h1,h2,h3,h4,h5,h6,h7⟩:=hs
   refine .seq (.seq (rg (gm h5 fun h16=>gv (ji (x58.length:Int)) (J3 (o:=.of x58) h16) fun h17=>g1 1 (.ref (.bx 1) 0 [0] (ji x1.1)) h1 fun h18=>g1 18 (ji x1.1) h18 fun h19=>g2 17 19 (jb (decide ((x58.length:Int) < x1.1))) h17 h19 fun h20=>gq (.nsq (zg h20 h (fun h=>?_) (fun h=>?_))))))
   · refine .skip (.nsq (.block (.seq (rg (g0 (ji 0) fun h8=>gq (.nsq (.seq (.block (.loop ?_)))))))))
     exact ziy H x1 x58 r3 x59 (xc F x1 r3 k) ih F 0 _ ⟨h1,h2,h3,h4,h5,h6,h7,h8⟩ h
   refine .exit (.esq (.elp (.ebk (.nsq (.seq (rg (gm h5 fun h64=>gm h6 fun h65=>?_)))))))
   obtain ⟨v168,Ev168,h⟩:=bind_some h
   refine gv (.ref .sh 0 [] (ji v168)) (yq (t:=.sh) (lo:=0) (xs:=r3) h65 rfl Ev168 rfl rfl) fun h66=>g1 66 (ji v168) h66 fun h67=>gm h64 fun h2=>gm h67 fun h3=>g0 (jb true) fun h4=>yL (yr (r:=5) (x:=2) (v:=_) h2 rfl (fun s13 hz13=>?_))
   refine ez [(2,oI 2 [] (.of x58)),(3,ji v168),(4,jb true)] ⟨hz13 2 _ _ h2 (zl (r:=5) (p:=[]) rfl rfl),hz13 3 _ _ h3 mi,hz13 4 _ _ h4 mb⟩ ?_
   rintro s ⟨h2,h3,h4⟩
   refine .nsq (.ret ?_)
   obtain rfl:=oi h
   exact rrC (zf h2) (zf h3) (zf h4) (ud (wH (zP (wl (o:=.of x58)) (zP (yz (x:=(v168:Int))) (zP (yz (x:=(true:Bool))) xA)))) (zbA (wA (wx rfl) (wA rfl (wA rfl Xu)))))
def xI (F:Nat) (x1:GR):Option (S3 LI Int Bool):=
 (uK F x1).bind fun r2=>
 bif (!r2) then
  some (S3.mk [] 0 false)
 else
  (YK F x1).bind fun r3=>
  xc F x1 r3 F [] 0
theorem t15 (H:H15 D σ F) (x1:GR) (s:Nat→V) (hs:zk [(0,gV x1)] s) (h:xI F x1=some r):Run D σ (R15 r) (.run A15 []) s:=by
 unfold xI at h
 have h0:=hs
 refine .seq (zo (zT ?_))
 refine ez [(0,_),(1,_)] ⟨za h0 rfl mIE,zb rfl⟩ ?_
 rintro s ⟨h0,h1⟩
 refine xo (gV x1) (zx h0 rfl) h1 rfl (g0 nI fun h2=>g0 (ji 0) fun h3=>g0 (jb false) fun h4=>gq (.nsq (.seq (zo (zT ?_)))))
 refine ez [(1,_),(2,_),(3,_),(4,_),(9,_)] ⟨za rfl rfl (zi rfl mIE),za h2 rfl rfl,za h3 rfl mi,za h4 rfl mb,zb rfl⟩ ?_
 rintro s ⟨h1,h2,h3,h4,h9⟩
 refine xq [] [] trivial rfl rfl h9 (gm (rf (oI 9 [] (.of []))) fun h5=>yL (yr (r:=9) (x:=5) (v:=_) h5 rfl (fun s3 hz3=>?_)))
 refine ez [(1,bG 1 x1),(2,nI),(3,ji 0),(4,jb false),(5,oI 5 [] (.of []))] ⟨hz3 1 _ _ h1 (zi rfl mIE),hz3 2 _ _ h2 rfl,hz3 3 _ _ h3 mi,hz3 4 _ _ h4 mb,hz3 5 _ _ h5 (zl (r:=9) (p:=[]) rfl rfl)⟩ ?_
 rintro s ⟨h1,h2,h3,h4,h5⟩
 refine .nsq (.seq (.seq (rg (g1 1 (gV x1) h1 fun h10=>?_))))
 obtain ⟨r2,Er2,h⟩:=bind_some h
 refine zy (m:=0) (al:=false) (r:=Enc.enc (r2:Bool)) [Enc.enc (x1:GR)] (zc (v:=gV x1) h10 rfl (Enc.erase_enc (x1:GR)) zp) (H.c33 _ _ Er2) H.g33 rfl rfl rfl rfl (g1 11 (jb (!r2)) (rf (jb r2)) fun h12=>gq (.nsq (zg h12 h (fun h=>?_) (fun h=>?_))))
 · refine .seq (rg (gm h5 fun h13=>gm h13 fun h2=>g0 (ji 0) fun h3=>g0 (jb false) fun h4=>gq (.nsq (.ret ?_))))
   obtain rfl:=oi h
   exact rrC (zf h2) (zf h3) (zf h4) (ud (wH (zP (wl (o:=.of [])) (zP (yz (x:=(0:Int))) (zP (yz (x:=(false:Bool))) xA)))) (zbA (wA (wx rfl) (wA rfl (wA rfl Xu)))))
 refine .skip (.nsq (.seq (rg (g1 1 (gV x1) h1 fun h14=>?_))))
 obtain ⟨r3,Er3,h⟩:=bind_some h
 refine zy (m:=0) (al:=false) (r:=eL r3) [Enc.enc (x1:GR)] (zc (v:=gV x1) h14 rfl (Enc.erase_enc (x1:GR)) zp) (H.c38 _ _ Er3) H.g38 rfl rfl rfl rfl (gm (rf (eL r3)) fun h6=>gq (.nsq (.seq (rg (g0 (ji 0) fun h7=>gq (.nsq (.seq (.block (.loop ?_)))))))))
 exact zhg H x1 r3 F [] 0 _ ⟨h1,h2,h3,h4,h5,h6,h7⟩ h
end
def e15 (F:Nat):Ent:=ent 15 (fun (x:(GR×Unit))=>xI F x.1) (fun (r:(S3 LI Int Bool))=>(.tup [eL r.a,Enc.enc (r.b:Int),Enc.enc (r.c:Bool)])) 0 false []
abbrev C15 (D:List V→Option V) (F:Nat):Prop:=∀ (x0:GR) r,xI F x0=some r→D [Enc.enc x0]=some (.tup [eL r.a,Enc.enc (r.b:Int),Enc.enc (r.c:Bool)])
theorem p15 {F:Nat}:C15 (e15 F).den F:=fun x0 _ h=>zK (x0,()) h
theorem o15 (hF:zr Try.prog D σ) (H:H15 D σ F):(e15 F).Ok Try.prog:=okZ (f:=15) Try.func15 fun ⟨x0,_⟩ y hy=>cR hF Try.func15 c15 (t15 H x0 _ rfl hy)
def zq9:AC:=(.cond (.t 21) (rr [jm 22 5,jm 23 7,jv 24 (.bin .or (.t 22) (.t 23)),jm 5 24]) .skip)
def ztQ:AC:=(.seq (rr [jm 17 1,jm 18 6,jv 19 (.bin .shr (.t 17) (.t 18)),jv 20 (.bin .and (.t 19) (jn 1)),jv 21 (.bin .eql (.t 20) (jn 1))]) zq9)
def zlC:AC:=(rr [jv 25 (.bin .add (.t 12) (jn 1)),jm 12 25])
def zuq:AC:=(.seq (.block 1 (.seq (rr [jm 14 12,jv 15 (.idx (.t 10) (.t 12) 1),jl 16 15,jm 6 14,jm 7 16]) ztQ)) zlC)
def zpf:AC:=(.seq (.cond (.t 13) .skip (.exit 0)) zuq)
def NA:AC:=(.seq (rr [jv 13 (.bin .lss (.t 12) (.t 11))]) zpf)
def zed:AC:=(.seq (rr [jm 26 5,jm 4 26]) .ret)
def zna:AC:=(.block 0 (.loop NA))
def zuj:AC:=(.seq (.seq (rr [jv 9 (.fld (.t 2) 0 0),jv 10 (.load .p (.t 9)),jk 11 10,jv 12 (.mov (jn 0))]) zna) zed)
def zpz:AC:=(.seq (rr [jm 8 1,jm 5 8]) zuj)
def A70:AC:=(.seq (.reg [.clr [2]] [jx 2 (.box (.t 0)),jv 4 (.mov (jn 0))] []) zpz)
def zvD:List An:=[⟨0,[.clr [2]],[],[],[]⟩]
theorem c70:cq Try.prog Try.f70 zvD=some A70:=by kernel_rfl
structure H70 (D:Den) (σ:Sig) (F:Nat):Prop where
 mk ::
abbrev R70 (r:Int):(Nat→V)→Prop:=RR Try.prog [.tmp 4] 0 false (Enc.enc (r:Int))
section
variable {r:Int}
def uM (F:Nat) (x2:Int) (x1:(S1 LI)) (x7:Int) (c1:Int→Int→Option Int) (x13:Int):Option Int:=
 c1 x13 (w64 (x7 + 1))
theorem zcn (H:H70 D σ F) (x2:Int) (x1:(S1 LI)) (x7:Int) (c1:Int→Int→Option Int) (Hc1:∀ (x6:Int) (x7:Int) (s:Nat→V),zk [(1,ji x2),(4,ji 0),(5,ji x6),(10,eL x1.a),(11,ji (x1.a.length:Int)),(12,ji x7)] s→c1 x6 x7=some r→Run D σ (R70 r) (.run NA [.lp NA,.bk 0,.sq zed]) s) (x13:Int) (s:Nat→V) (hs:zk [(1,ji x2),(4,ji 0),(5,ji x13),(10,eL x1.a),(11,ji (x1.a.length:Int)),(12,ji x7)] s) (h:uM F x2 x1 x7 c1 x13=some r):Run D σ (R70 r) (.nrm [.bk 1,.sq zlC,.lp NA,.bk 0,.sq zed]) s:=by
 unfold uM at h
 obtain ⟨h1,h4,h5,h10,h11,h12⟩:=hs
 refine .nbk (.nsq (rg (g1 12 (ji (w64 (x7 + 1))) h12 fun h25=>gm h25 fun h12=>gq (.nlp ?_))))
 exact Hc1 x13 (w64 (x7 + 1)) _ ⟨h1,h4,h5,h10,h11,h12⟩ h
def xv (F:Nat) (x2:Int) (x1:(S1 LI)) :Nat→Int→Int→Option Int
 | 0,_,_=>none
 | k + 1,x6,x7=>
   bif decide (x7 < (x1.a.length:Int)) then
    (idx x1.a x7).bind fun v11=>
    (Wk .i64 x2 x7).bind fun q12=>
    bif ((yp .i64 q12 1) == 1) then
     uM F x2 x1 x7 (xv F x2 x1 k) (ior .i64 x6 v11)
    else
     uM F x2 x1 x7 (xv F x2 x1 k) x6
   else
    some x6
theorem zhA (H:H70 D σ F) (x2:Int) (x1:(S1 LI)) :∀ (k:Nat) (x6:Int) (x7:Int) (s:Nat→V),zk [(1,ji x2),(4,ji 0),(5,ji x6),(10,eL x1.a),(11,ji (x1.a.length:Int)),(12,ji x7)] s→xv F x2 x1 k x6 x7=some r→Run D σ (R70 r) (.run NA [.lp NA,.bk 0,.sq zed]) s:=by
 intro k
 induction k with
 | zero=>intro x6 x7 s _ h;exact nm h
 | succ k ih=>
   intro x6 x7 s hs h
   rw [xv] at h
   obtain ⟨h1,h4,h5,h10,h11,h12⟩:=hs
   refine .seq (rg (g2 12 11 (jb (decide (x7 < (x1.a.length:Int)))) h12 h11 fun h13=>gq (.nsq (.seq (zg h13 h (fun h=>?_) (fun h=>?_))))))
   · refine .skip (.nsq (.seq (.block (.seq (rg (gm h12 fun h14=>?_))))))
     obtain ⟨v11,Ev11,h⟩:=bind_some h
     refine gv (.ref .sh 0 [] (ji v11)) (yq (t:=.sh) (lo:=0) (xs:=x1.a) h10 h12 Ev11 rfl rfl) fun h15=>g1 15 (ji v11) h15 fun h16=>gm h14 fun h6=>gm h16 fun h7=>gq (.nsq (.seq (rg (gm h1 fun h17=>gm h6 fun h18=>?_))))
     obtain ⟨q12,Eq12,h⟩:=bind_some h
     refine gv (ji q12) (YA h17 h18 Eq12) fun h19=>g1 19 (ji (yp .i64 q12 1)) h19 fun h20=>g1 20 (jb ((yp .i64 q12 1) == 1)) h20 fun h21=>gq (.nsq (zg h21 h (fun h=>?_) (fun h=>?_)))
     · refine rg (gm h5 fun h22=>gm h7 fun h23=>g2 22 23 (ji (ior .i64 x6 v11)) h22 h23 fun h24=>gm h24 fun h5=>gq ?_)
       exact zcn H x2 x1 x7 (xv F x2 x1 k) ih (ior .i64 x6 v11) _ ⟨h1,h4,h5,h10,h11,h12⟩ h
     refine .skip ?_
     exact zcn H x2 x1 x7 (xv F x2 x1 k) ih x6 _ ⟨h1,h4,h5,h10,h11,h12⟩ h
   refine .exit (.esq (.elp (.ebk (.nsq (.seq (rg (gm h5 fun h26=>gm h26 fun h4=>gq (.nsq (.ret ?_)))))))))
   obtain rfl:=oi h
   exact rrA (zf h4) rfl
def uv (F:Nat) (x1:(S1 LI)) (x2:Int):Option Int:=
 xv F x2 x1 F x2 0
theorem t70 (H:H70 D σ F) (x1:(S1 LI)) (x2:Int) (s:Nat→V) (hs:zk [(0,.agg [eL x1.a]),(1,ji x2)] s) (h:uv F x1 x2=some r):Run D σ (R70 r) (.run A70 []) s:=by
 unfold uv at h
 obtain ⟨h0,h1⟩:=hs
 refine .seq (zo (zT ?_))
 refine ez [(0,_),(1,_),(2,_)] ⟨za h0 rfl (zF (ze me zm)),za h1 rfl mi,zb rfl⟩ ?_
 rintro s ⟨h0,h1,h2⟩
 refine xo (.agg [eL x1.a]) (zx h0 rfl) h2 rfl (g0 (ji 0) fun h4=>gq (.nsq (.seq (rg (gm h1 fun h8=>gm h8 fun h5=>gq (.nsq (.seq (.seq (rg (g1 2 (.ref (.bx 2) 0 [0] (eL x1.a)) (rf (.ref (.bx 2) 0 [] (.agg [eL x1.a]))) fun h9=>g1 9 (eL x1.a) h9 fun h10=>gl x1.a h10 fun h11=>g0 (ji 0) fun h12=>gq (.nsq (.block (.loop ?_)))))))))))))
 exact zhA H x2 x1 F x2 0 _ ⟨h1,h4,h5,h10,h11,h12⟩ h
end
def e70 (F:Nat):Ent:=ent 70 (fun (x:((S1 LI)×Int×Unit))=>uv F x.1 x.2.1) (fun (r:Int)=>(Enc.enc (r:Int))) 0 false []
abbrev C70 (D:List V→Option V) (F:Nat):Prop:=∀ (x0:(S1 LI)) (x1:Int) r,uv F x0 x1=some r→D [Enc.enc x0,Enc.enc x1]=some (Enc.enc (r:Int))
theorem p70 {F:Nat}:C70 (e70 F).den F:=fun x0 x1 _ h=>zK (x0,x1,()) h
theorem o70 (hF:zr Try.prog D σ) (H:H70 D σ F):(e70 F).Ok Try.prog:=okZ (f:=70) Try.func70 fun ⟨x0,x1,_⟩ y hy=>cR hF Try.func70 c70 (t70 H x0 x1 _ ⟨rfl,rfl⟩ hy)
def zq1:AC:=(.cond (.t 12) .skip (.exit 0))
def zph:AC:=(.cond (.t 20) (.exit 0) .skip)
def zrf:AC:=(rr [jm 21 8,jm 7 21])
def zsJ:AC:=(.seq (.seq (rr [jm 18 8,jm 19 7,jv 20 (.bin .eql (.t 18) (.t 19))]) zph) zrf)
def zoG:AC:=(rr [jm 13 2,jv 14 (.bin .sub (.t 13) (jn 1)),jm 2 14])
def zow:AC:=(.seq (.block 1 (.seq (rr [jv 15 (.load (.ag [.p]) (.t 3)),jm 16 7,jx 17 (.call (jf 70) [.t 15,.t 16]),jm 8 17]) zsJ)) zoG)
def zhw:AC:=(.seq (.seq (rr [jm 11 2,jv 12 (.bin .gtr (.t 11) (jn 0))]) zq1) zow)
def zl3:AC:=(.seq (rr [jm 22 7,jm 6 22]) .ret)
def zmQ:AC:=(.seq (.block 0 (.loop zhw)) zl3)
def zsZ:AC:=(.seq (rr [jm 9 1,jv 10 (.bin .shl (jn 1) (.t 9)),jm 7 10]) zmQ)
def A42:AC:=(.seq (.reg [.clr [3]] [jx 3 (.box (.t 0)),jv 6 (.mov (jn 0))] []) zsZ)
def zu0:List An:=[⟨0,[.clr [3]],[],[],[]⟩]
theorem c42:cq Try.prog Try.f42 zu0=some A42:=by kernel_rfl
structure H42 (D:Den) (σ:Sig) (F:Nat):Prop where
 c70:C70 (D 70) F
 g70:σ 70=some (0,false)
abbrev R42 (r:Int):(Nat→V)→Prop:=RR Try.prog [.tmp 6] 0 false (Enc.enc (r:Int))
section
variable {r:Int}
def vJ (F:Nat) (x1:(S1 LI)) :Nat→Int→Int→Option Int
 | 0,_,_=>none
 | k + 1,r6,x7=>
   bif decide (r6 > 0) then
    (uv F x1 x7).bind fun r9=>
    bif (r9 == x7) then
     some x7
    else
     (vJ F x1 k) (w64 (r6 - 1)) r9
   else
    some x7
theorem zhr (H:H42 D σ F) (x1:(S1 LI)) :∀ (k:Nat) (r6:Int) (x7:Int) (s:Nat→V),zk [(2,ji r6),(3,.ref (.bx 3) 0 [] (.agg [eL x1.a])),(6,ji 0),(7,ji x7)] s→vJ F x1 k r6 x7=some r→Run D σ (R42 r) (.run zhw [.lp zhw,.bk 0,.sq zl3]) s:=by
 intro k
 induction k with
 | zero=>intro r6 x7 s _ h;exact nm h
 | succ k ih=>
   intro r6 x7 s hs h
   rw [vJ] at h
   obtain ⟨h2,h3,h6,h7⟩:=hs
   refine .seq (.seq (rg (gm h2 fun h11=>g1 11 (jb (decide (r6 > 0))) h11 fun h12=>gq (.nsq (zg h12 h (fun h=>?_) (fun h=>?_))))))
   · refine .skip (.nsq (.seq (.block (.seq (rg (g1 3 (.agg [eL x1.a]) h3 fun h15=>gm h7 fun h16=>?_))))))
     obtain ⟨r9,Er9,h⟩:=bind_some h
     refine zy (m:=0) (al:=false) (r:=Enc.enc (r9:Int)) [Enc.enc (x1:(S1 LI)),Enc.enc (x7:Int)] (zc (v:=.agg [eL x1.a]) h15 rfl (Enc.erase_enc (x1:(S1 LI))) (zc (v:=ji x7) h16 rfl rfl zp)) (H.c70 _ _ _ Er9) H.g70 rfl rfl rfl rfl (gm (rf (ji r9)) fun h8=>gq (.nsq (.seq (.seq (rg (gm h8 fun h18=>gm h7 fun h19=>g2 18 19 (jb (r9 == x7)) h18 h19 fun h20=>gq (.nsq (zg h20 h (fun h=>?_) (fun h=>?_)))))))))
     · refine .exit (.esq (.ebn (by decide) (.esq (.elp (.ebk (.nsq (.seq (rg (gm h7 fun h22=>gm h22 fun h6=>gq (.nsq (.ret ?_)))))))))))
       obtain rfl:=oi h
       exact rrA (zf h6) rfl
     refine .skip (.nsq (rg (gm h8 fun h21=>gm h21 fun h7=>gq (.nbk (.nsq (rg (gm h2 fun h13=>g1 13 (ji (w64 (r6 - 1))) h13 fun h14=>gm h14 fun h2=>gq (.nlp ?_))))))))
     exact ih (w64 (r6 - 1)) r9 _ ⟨h2,h3,h6,h7⟩ h
   refine .exit (.esq (.elp (.ebk (.nsq (.seq (rg (gm h7 fun h22=>gm h22 fun h6=>gq (.nsq (.ret ?_)))))))))
   obtain rfl:=oi h
   exact rrA (zf h6) rfl
def ZX (F:Nat) (x1:(S1 LI)) (x2:Int) (r3:Int):Option Int:=
 (uB .i64 1 x2).bind fun q4=>
 vJ F x1 F r3 q4
theorem t42 (H:H42 D σ F) (x1:(S1 LI)) (x2:Int) (r3:Int) (s:Nat→V) (hs:zk [(0,.agg [eL x1.a]),(1,ji x2),(2,ji r3)] s) (h:ZX F x1 x2 r3=some r):Run D σ (R42 r) (.run A42 []) s:=by
 unfold ZX at h
 obtain ⟨h0,h1,h2⟩:=hs
 refine .seq (zo (zT ?_))
 refine ez [(0,_),(1,_),(2,_),(3,_)] ⟨za h0 rfl (zF (ze me zm)),za h1 rfl mi,za h2 rfl mi,zb rfl⟩ ?_
 rintro s ⟨h0,h1,h2,h3⟩
 refine xo (.agg [eL x1.a]) (zx h0 rfl) h3 rfl (g0 (ji 0) fun h6=>gq (.nsq (.seq (rg (gm h1 fun h9=>?_)))))
 obtain ⟨q4,Eq4,h⟩:=bind_some h
 refine gv (ji q4) (vW rfl h9 Eq4) fun h10=>gm h10 fun h7=>gq (.nsq (.seq (.block (.loop ?_))))
 exact zhr H x1 F r3 q4 _ ⟨h2,rfl,h6,h7⟩ h
end
def e42 (F:Nat):Ent:=ent 42 (fun (x:((S1 LI)×Int×Int×Unit))=>ZX F x.1 x.2.1 x.2.2.1) (fun (r:Int)=>(Enc.enc (r:Int))) 0 false []
abbrev C42 (D:List V→Option V) (F:Nat):Prop:=∀ (x0:(S1 LI)) (x1:Int) (x2:Int) r,ZX F x0 x1 x2=some r→D [Enc.enc x0,Enc.enc x1,Enc.enc x2]=some (Enc.enc (r:Int))
theorem p42 {F:Nat}:C42 (e42 F).den F:=fun x0 x1 x2 _ h=>zK (x0,x1,x2,()) h
theorem o42 (hF:zr Try.prog D σ) (H:H42 D σ F):(e42 F).Ok Try.prog:=okZ (f:=42) Try.func42 fun ⟨x0,x1,x2,_⟩ y hy=>cR hF Try.func42 c42 (t42 H x0 x1 x2 _ ⟨rfl,rfl,rfl⟩ hy)
def zqe:AC:=(.cond (.t 22) .skip (.exit 2))
def zq7:AC:=(rr [jm 32 5,jm 33 8,jm 34 7,jv 35 (.bin .mul (jn 2) (.t 34)),jv 36 (.bin .add (.t 33) (.t 35)),jv 37 (.bin .sub (.t 36) (jn 1)),jm 38 7,jv 39 (.bin .mul (jn 2) (.t 38)),jv 40 (.bin .quo (.t 37) (.t 39)),jv 41 (.mx [.t 32,.t 40]),jm 5 41])
def zmh:AC:=(rr [jm 23 7,jv 24 (.bin .add (.t 23) (jn 1)),jm 7 24])
def zsY:AC:=(.seq (.block 3 (.seq (rr [jv 25 (.load (.ag [.p]) (.t 4)),jm 26 6,jm 27 7,jx 28 (.call (jf 42) [.t 25,.t 26,.t 27]),jv 29 (.conv .u64 (.t 28)),jx 30 (.call (jf 41) [.t 29]),jv 31 (.bin .sub (.t 30) (jn 1)),jm 8 31]) zq7)) zmh)
def ziA:AC:=(.seq (.seq (rr [jm 19 7,jv 20 (.fld (.t 1) 0 0),jl 21 20,jv 22 (.bin .leq (.t 19) (.t 21))]) zqe) zsY)
def zpl:AC:=(.block 2 (.loop ziA))
def zqc:AC:=(.seq (rr [jv 7 (.mov (jn 1))]) zpl)
def zg3:AC:=(rr [jv 42 (.bin .add (.t 16) (jn 1)),jm 16 42])
def zs7:AC:=(.seq (.block 1 (.seq (rr [jm 18 16,jm 6 18]) zqc)) zg3)
def zqS:AC:=(.seq (.cond (.t 17) .skip (.exit 0)) zs7)
def Qy:AC:=(.seq (rr [jv 17 (.bin .lss (.t 16) (.t 15))]) zqS)
def za1:AC:=(.seq (rr [jm 43 5,jm 2 43,jv 3 (.mov kt)]) .ret)
def znE:AC:=(.cond (.t 11) (.seq (rr [jv 2 (.mov (jn 0)),jv 3 (.mov kf)]) .ret) .skip)
def zns:AC:=(.block 0 (.loop Qy))
def zoi:AC:=(.seq (.seq (rr [jv 14 (.fld (.t 1) 0 0),jl 15 14,jv 16 (.mov (jn 0))]) zns) za1)
def znS:AC:=(.seq (rr [jv 5 (.mov (jn 0))]) zoi)
def zmL:AC:=(.seq (.reg [.clr [4]] [jv 12 (.load (.ag [.s,.p]) (.t 1)),jx 13 (.call (jf 28) [.t 12]),jx 4 (.alloc (.agg [.sl .nl .s 0 []])),jz (.store (.ag [.p]) (.t 4) (.t 13))] []) znS)
def zoh:AC:=(.seq (.seq (rr [jv 9 (.load (.ag [.s,.p]) (.t 1)),jx 10 (.call (jf 23) [.t 9]),jv 11 (.un .not (.t 10))]) znE) zmL)
def A16:AC:=(.seq (.reg [.clr [1]] [jx 1 (.box (.t 0)),jv 2 (.mov (jn 0)),jv 3 (.mov kf)] []) zoh)
def zvR:List An:=[⟨0,[.clr [1]],[],[],[]⟩,⟨3,[.clr [4]],[],[],[]⟩]
theorem c16:cq Try.prog Try.f16 zvR=some A16:=by kernel_rfl
structure H16 (D:Den) (σ:Sig) (F:Nat):Prop where
 c23:C23 (D 23) F
 g23:σ 23=some (0,false)
 c28:C28 (D 28) F
 g28:σ 28=some (0,false)
 c42:C42 (D 42) F
 g42:σ 42=some (0,false)
 c41:C41 (D 41) F
 g41:σ 41=some (0,false)
abbrev R16 (r:(Int×Bool)):(Nat→V)→Prop:=RR Try.prog [.tmp 2,.tmp 3] 0 false (.tup [Enc.enc (r.1:Int),Enc.enc (r.2:Bool)])
section
variable {r:(Int×Bool)}
def y5 (F:Nat) (x1:GR) (r3:(S1 LI)) (x16:Int) (c1:Int→Int→Option (Int×Bool)):Nat→Int→Int→Option (Int×Bool)
 | 0,_,_=>none
 | k + 1,x31,r32=>
   bif decide (r32≤x1.1) then
    (ZX F r3 x16 r32).bind fun r36=>
    (we F (Kd.mk (IntKind.u64.wrap r36):Kd .u64)).bind fun r37=>
    (zdm .i64 (w64 ((w64 ((w64 (r37 - 1)) + (w64 (2 * r32)))) - 1)) (w64 (2 * r32))).bind fun q38=>
    (y5 F x1 r3 x16 c1 k) (if q38 > x31 then q38 else x31) (w64 (r32 + 1))
   else
    c1 x31 (w64 (x16 + 1))
theorem zir (H:H16 D σ F) (x1:GR) (r3:(S1 LI)) (x16:Int) (c1:Int→Int→Option (Int×Bool)) (Hc1:∀ (x15:Int) (x16:Int) (s:Nat→V),zk [(1,bG 1 x1),(2,ji 0),(3,jb false),(4,.ref (.bx 4) 0 [] (.agg [eL r3.a])),(5,ji x15),(15,ji x1.1),(16,ji x16)] s→c1 x15 x16=some r→Run D σ (R16 r) (.run Qy [.lp Qy,.bk 0,.sq za1]) s):∀ (k:Nat) (x31:Int) (r32:Int) (s:Nat→V),zk [(1,bG 1 x1),(2,ji 0),(3,jb false),(4,.ref (.bx 4) 0 [] (.agg [eL r3.a])),(5,ji x31),(6,ji x16),(7,ji r32),(15,ji x1.1),(16,ji x16)] s→y5 F x1 r3 x16 c1 k x31 r32=some r→Run D σ (R16 r) (.run ziA [.lp ziA,.bk 2,.bk 1,.sq zg3,.lp Qy,.bk 0,.sq za1]) s:=by
 intro k
 induction k with
 | zero=>intro x31 r32 s _ h;exact nm h
 | succ k ih=>
   intro x31 r32 s hs h
   rw [y5] at h
   obtain ⟨h1,h2,h3,h4,h5,h6,h7,h15,h16⟩:=hs
   refine .seq (.seq (rg (gm h7 fun h19=>g1 1 (.ref (.bx 1) 0 [0] (ji x1.1)) h1 fun h20=>g1 20 (ji x1.1) h20 fun h21=>g2 19 21 (jb (decide (r32≤x1.1))) h19 h21 fun h22=>gq (.nsq (zg h22 h (fun h=>?_) (fun h=>?_))))))
   · refine .skip (.nsq (.seq (.block (.seq (rg (g1 4 (.agg [eL r3.a]) h4 fun h25=>gm h6 fun h26=>gm h7 fun h27=>?_))))))
     obtain ⟨r36,Er36,h⟩:=bind_some h
     refine zy (m:=0) (al:=false) (r:=Enc.enc (r36:Int)) [Enc.enc (r3:(S1 LI)),Enc.enc (x16:Int),Enc.enc (r32:Int)] (zc (v:=.agg [eL r3.a]) h25 rfl (Enc.erase_enc (r3:(S1 LI))) (zc (v:=ji x16) h26 rfl rfl (zc (v:=ji r32) h27 rfl rfl zp))) (H.c42 _ _ _ _ Er36) H.g42 rfl rfl rfl rfl (g1 28 (.int .u64 (IntKind.u64.wrap r36)) (rf (ji r36)) fun h29=>?_)
     obtain ⟨r37,Er37,h⟩:=bind_some h
     refine zy (m:=0) (al:=false) (r:=Enc.enc (r37:Int)) [Enc.enc ((Kd.mk (IntKind.u64.wrap r36):Kd .u64):(Kd .u64))] (zc (v:=.int .u64 (IntKind.u64.wrap r36)) h29 rfl rfl zp) (H.c41 _ _ Er37) H.g41 rfl rfl rfl rfl (g1 30 (ji (w64 (r37 - 1))) (rf (ji r37)) fun h31=>gm h31 fun h8=>gq (.nsq (rg (gm h5 fun h32=>gm h8 fun h33=>gm h7 fun h34=>g1 34 (ji (w64 (2 * r32))) h34 fun h35=>g2 33 35 (ji (w64 ((w64 (r37 - 1)) + (w64 (2 * r32))))) h33 h35 fun h36=>g1 36 (ji (w64 ((w64 ((w64 (r37 - 1)) + (w64 (2 * r32)))) - 1))) h36 fun h37=>gm h7 fun h38=>g1 38 (ji (w64 (2 * r32))) h38 fun h39=>?_))))
     obtain ⟨q38,Eq38,h⟩:=bind_some h
     refine gv (ji q38) (ziE h37 h39 Eq38) fun h40=>g2 32 40 (ji (if q38 > x31 then q38 else x31)) h32 h40 fun h41=>gm h41 fun h5=>gz [(1,_),(2,_),(3,_),(4,_),(5,_),(6,_),(7,_),(15,_),(16,_)] ⟨h1,h2,h3,h4,h5,h6,h7,h15,h16⟩ ?_
     rintro s ⟨h1,h2,h3,h4,h5,h6,h7,h15,h16⟩
     refine .nbk (.nsq (rg (gm h7 fun h23=>g1 23 (ji (w64 (r32 + 1))) h23 fun h24=>gm h24 fun h7=>gq (.nlp ?_))))
     exact ih (if q38 > x31 then q38 else x31) (w64 (r32 + 1)) _ ⟨h1,h2,h3,h4,h5,h6,h7,h15,h16⟩ h
   refine .exit (.esq (.elp (.ebk (.nbk (.nsq (rg (g1 16 (ji (w64 (x16 + 1))) h16 fun h42=>gm h42 fun h16=>gq (.nlp ?_))))))))
   exact Hc1 x31 (w64 (x16 + 1)) _ ⟨h1,h2,h3,h4,h5,h15,h16⟩ h
def y0 (F:Nat) (x1:GR) (r3:(S1 LI)) :Nat→Int→Int→Option (Int×Bool)
 | 0,_,_=>none
 | k + 1,x15,x16=>
   bif decide (x16 < x1.1) then
    y5 F x1 r3 x16 (y0 F x1 r3 k) F x15 1
   else
    some (x15,true)
theorem ziO (H:H16 D σ F) (x1:GR) (r3:(S1 LI)) :∀ (k:Nat) (x15:Int) (x16:Int) (s:Nat→V),zk [(1,bG 1 x1),(2,ji 0),(3,jb false),(4,.ref (.bx 4) 0 [] (.agg [eL r3.a])),(5,ji x15),(15,ji x1.1),(16,ji x16)] s→y0 F x1 r3 k x15 x16=some r→Run D σ (R16 r) (.run Qy [.lp Qy,.bk 0,.sq za1]) s:=by
 intro k
 induction k with
 | zero=>intro x15 x16 s _ h;exact nm h
 | succ k ih=>
   intro x15 x16 s hs h
   rw [y0] at h
   obtain ⟨h1,h2,h3,h4,h5,h15,h16⟩:=hs
   refine .seq (rg (g2 16 15 (jb (decide (x16 < x1.1))) h16 h15 fun h17=>gq (.nsq (.seq (zg h17 h (fun h=>?_) (fun h=>?_))))))
   · refine .skip (.nsq (.seq (.block (.seq (rg (gm h16 fun h18=>gm h18 fun h6=>gq (.nsq (.seq (rg (g0 (ji 1) fun h7=>gq (.nsq (.block (.loop ?_)))))))))))))
     exact zir H x1 r3 x16 (y0 F x1 r3 k) ih F x15 1 _ ⟨h1,h2,h3,h4,h5,h6,h7,h15,h16⟩ h
   refine .exit (.esq (.elp (.ebk (.nsq (.seq (rg (gm h5 fun h43=>gm h43 fun h2=>g0 (jb true) fun h3=>gq (.nsq (.ret ?_)))))))))
   obtain rfl:=oi h
   exact rrB (zf h2) (zf h3) rfl
def wB (F:Nat) (x1:GR):Option (Int×Bool):=
 (xF F x1).bind fun r2=>
 bif (!r2) then
  some (0,false)
 else
  (vw F x1).bind fun r3=>
  y0 F x1 r3 F 0 0
theorem t16 (H:H16 D σ F) (x1:GR) (s:Nat→V) (hs:zk [(0,gV x1)] s) (h:wB F x1=some r):Run D σ (R16 r) (.run A16 []) s:=by
 unfold wB at h
 have h0:=hs
 refine .seq (zo (zT ?_))
 refine ez [(0,_),(1,_)] ⟨za h0 rfl mIE,zb rfl⟩ ?_
 rintro s ⟨h0,h1⟩
 refine xo (gV x1) (zx h0 rfl) h1 rfl (g0 (ji 0) fun h2=>g0 (jb false) fun h3=>gq (.nsq (.seq (.seq (rg (g1 1 (gV x1) (rf (bG 1 x1)) fun h9=>?_))))))
 obtain ⟨r2,Er2,h⟩:=bind_some h
 refine zy (m:=0) (al:=false) (r:=Enc.enc (r2:Bool)) [Enc.enc (x1:GR)] (zc (v:=gV x1) h9 rfl (Enc.erase_enc (x1:GR)) zp) (H.c23 _ _ Er2) H.g23 rfl rfl rfl rfl (g1 10 (jb (!r2)) (rf (jb r2)) fun h11=>gq (.nsq (zg h11 h (fun h=>?_) (fun h=>?_))))
 · refine .seq (rg (g0 (ji 0) fun h2=>g0 (jb false) fun h3=>gq (.nsq (.ret ?_))))
   obtain rfl:=oi h
   exact rrB (zf h2) (zf h3) rfl
 refine .skip (.nsq (.seq (zo (zT ?_))))
 refine ez [(1,_),(2,_),(3,_),(4,_)] ⟨za rfl rfl (zi rfl mIE),za h2 rfl mi,za h3 rfl mb,zb rfl⟩ ?_
 rintro s ⟨h1,h2,h3,h4⟩
 refine g1 1 (gV x1) h1 fun h12=>?_
 obtain ⟨r3,Er3,h⟩:=bind_some h
 refine zy (m:=0) (al:=false) (r:=Enc.enc (r3:(S1 LI))) [Enc.enc (x1:GR)] (zc (v:=gV x1) h12 rfl (Enc.erase_enc (x1:GR)) zp) (H.c28 _ _ Er3) H.g28 rfl rfl rfl rfl (wk h4 (yd (.agg [eL r3.a]) (zx rfl rfl) (zx rfl rfl) (ww (by first | rfl | simp [V.toks,V.tokss,Enc.toks_enc,ya])) (gz [(1,bG 1 x1),(2,ji 0),(3,jb false),(4,.ref (.bx 4) 0 [] (.agg [eL r3.a]))] ⟨zd h1 (zH rfl rfl uIE),zd h2 rfl,zd h3 rfl,zd rfl rfl⟩ ?_)))
 rintro s ⟨h1,h2,h3,h4⟩
 refine .nsq (.seq (rg (g0 (ji 0) fun h5=>gq (.nsq (.seq (.seq (rg (g1 1 (.ref (.bx 1) 0 [0] (ji x1.1)) h1 fun h14=>g1 14 (ji x1.1) h14 fun h15=>g0 (ji 0) fun h16=>gq (.nsq (.block (.loop ?_)))))))))))
 exact ziO H x1 r3 F 0 0 _ ⟨h1,h2,h3,h4,h5,h15,h16⟩ h
end
def e16 (F:Nat):Ent:=ent 16 (fun (x:(GR×Unit))=>wB F x.1) (fun (r:(Int×Bool))=>(.tup [Enc.enc (r.1:Int),Enc.enc (r.2:Bool)])) 0 false []
abbrev C16 (D:List V→Option V) (F:Nat):Prop:=∀ (x0:GR) r,wB F x0=some r→D [Enc.enc x0]=some (.tup [Enc.enc (r.1:Int),Enc.enc (r.2:Bool)])
theorem p16 {F:Nat}:C16 (e16 F).den F:=fun x0 _ h=>zK (x0,()) h
theorem o16 (hF:zr Try.prog D σ) (H:H16 D σ F):(e16 F).Ok Try.prog:=okZ (f:=16) Try.func16 fun ⟨x0,_⟩ y hy=>cR hF Try.func16 c16 (t16 H x0 _ rfl hy)
def zp0:AC:=(.cond (.t 14) .skip (.exit 0))
def zoL:AC:=(.cond (.t 21) .skip (.exit 2))
def ztK:AC:=(rr [jm 22 6,jv 23 (.bin .add (.t 22) (jn 1)),jm 6 23])
def zug:AC:=(.seq (.block 3 (.reg [.clr [25,26]] [jm 24 5,jx 25 (.lit i0 1 [(0,0,jn (-1))]),jx 26 (.app .s (.t 24) (.t 25)),jm 5 26] [.home 26 5])) ztK)
def zjd:AC:=(.seq (.seq (rr [jm 18 6,jv 19 (.fld (.t 1) 0 0),jl 20 19,jv 21 (.bin .lss (.t 18) (.t 20))]) zoL) zug)
def ztb:AC:=(.block 2 (.loop zjd))
def znX:AC:=(.cond (.t 33) .skip (.exit 4))
def zon:AC:=(.cond (.t 39) .skip (.exit 6))
def zm2:AC:=(.cond (.t 45) .skip (.exit 8))
def zhO:AC:=(.cond (.t 66) (rr [jm 67 5,jm 68 9,jm 69 7,jv 70 (.bin .add (.t 69) (jn 1)),jv 71 (.idx (.t 67) (.t 68) 1),jz (.store .s (.t 71) (.t 70))]) .skip)
def zc0:AC:=(rr [jm 46 9,jv 47 (.bin .add (.t 46) (jn 1)),jm 9 47])
def znV:AC:=(.seq (.block 9 (.seq (rr [jm 48 5,jm 49 8,jv 50 (.idx (.t 48) (.t 49) 1),jl 51 50,jm 52 7,jv 53 (.bin .eql (.t 51) (.t 52)),jm 54 53,jg 55 54 true (.mov (.t 5)),jg 56 54 true (.mov (.t 9)),jg 57 54 true (.idx (.t 55) (.t 56) 1),jg 58 54 true (.load .s (.t 57)),jg 59 54 true (.bin .lss (.t 58) (jn 0)),jv 60 (.pick (.t 54) (.t 59) kf),jm 61 60,jg 62 61 true (.load (.ag [.s,.p]) (.t 1)),jg 63 61 true (.mov (.t 8)),jg 64 61 true (.mov (.t 9)),.mk (some 65) (some (61,true)) false (.call (jf 77) [.t 62,.t 63,.t 64]),jv 66 (.pick (.t 61) (.t 65) kf)]) zhO)) zc0)
def Ul:AC:=(.seq (.seq (rr [jm 42 9,jv 43 (.fld (.t 1) 0 0),jl 44 43,jv 45 (.bin .lss (.t 42) (.t 44))]) zm2) znV)
def zor:AC:=(.block 8 (.loop Ul))
def KM:AC:=(rr [jm 40 8,jv 41 (.bin .add (.t 40) (jn 1)),jm 8 41])
def zn5:AC:=(.seq (.block 7 (.seq (rr [jv 9 (.mov (jn 0))]) zor)) KM)
def Yl:AC:=(.seq (.seq (rr [jm 36 8,jv 37 (.fld (.t 1) 0 0),jl 38 37,jv 39 (.bin .lss (.t 36) (.t 38))]) zon) zn5)
def zm1:AC:=(.block 6 (.loop Yl))
def Wg:AC:=(rr [jm 34 7,jv 35 (.bin .add (.t 34) (jn 1)),jm 7 35])
def znl:AC:=(.seq (.block 5 (.seq (rr [jv 8 (.mov (jn 0))]) zm1)) Wg)
def vY:AC:=(.seq (.seq (rr [jm 30 7,jv 31 (.fld (.t 1) 0 0),jl 32 31,jv 33 (.bin .lss (.t 30) (.t 32))]) znX) znl)
def zmT:AC:=(.block 4 (.loop vY))
def ZP:AC:=(.reg [.clr [74,75],.frz 5] [jm 72 3,jm 73 5,jx 74 (.lit (.sl .nl .s 0 []) 1 [(0,0,.t 73)]),jx 75 (.app .p (.t 72) (.t 74)),jm 3 75] [.home 75 3])
def zmb:AC:=(.seq (.seq (rr [jv 7 (.mov (jn 0))]) zmT) ZP)
def zhz:AC:=(.seq (rr [jm 27 5,jm 28 4,jv 29 (.idx (.t 27) (.t 28) 1),jz (.store .s (.t 29) (jn 0))]) zmb)
def zr6:AC:=(.seq (.seq (rr [jv 6 (.mov (jn 0))]) ztb) zhz)
def ZC:AC:=(rr [jm 15 4,jv 16 (.bin .add (.t 15) (jn 1)),jm 4 16])
def ztW:AC:=(.seq (.block 1 (.seq (.reg [.clr [17]] [jx 17 (.lit i0 0 []),jm 5 17] [.home 17 5]) zr6)) ZC)
def vq:AC:=(.seq (.seq (rr [jm 11 4,jv 12 (.fld (.t 1) 0 0),jl 13 12,jv 14 (.bin .lss (.t 11) (.t 13))]) zp0) ztW)
def vj:AC:=(.seq (.reg [] [jm 76 3,jm 2 76] [.home 3 2]) .ret)
def zmv:AC:=(.block 0 (.loop vq))
def zoa:AC:=(.seq (.seq (rr [jv 4 (.mov (jn 0))]) zmv) vj)
def zmI:AC:=(.seq (.reg [.clr [10]] [jx 10 (.lit (.sl .nl .s 0 []) 0 []),jm 3 10] [.home 10 3]) zoa)
def A71:AC:=(.seq (.reg [.clr [1]] [jx 1 (.box (.t 0)),jv 2 (.mov (.k (.sl .nl .p 0 [])))] []) zmI)
def zv7:List An:=[⟨0,[.clr [1]],[],[],[]⟩,⟨1,[.clr [10]],[],[],[.home 10 3]⟩,⟨5,[.clr [17]],[],[],[.home 17 5]⟩,⟨9,[.clr [25,26]],[],[],[.home 26 5]⟩,⟨22,[.clr [74,75],.frz 5],[],[],[.home 75 3]⟩,⟨23,[],[],[],[.home 3 2]⟩]
theorem c71:cq Try.prog Try.f71 zv7=some A71:=by kernel_rfl
structure H71 (D:Den) (σ:Sig) (F:Nat):Prop where
 c77:C77 (D 77) F
 g77:σ 77=some (0,false)
abbrev R71 (r:(List LI)):(Nat→V)→Prop:=RR Try.prog [.tmp 2] 0 true (Enc.enc (r:(List LI)))
section
variable {r:(List LI)}
def Y5 (F:Nat) (x1:GR) (x305:(List LI)) (x306:Int) (x715:Int) (x847:Int) (x891:Int) (c1:(List LI)→Int→Option (List LI)) (c31:LI→Int→Option (List LI)) (c40:LI→Int→Option (List LI)) (c43:LI→Int→Option (List LI)) (x907:LI):Option (List LI):=
 c43 x907 (w64 (x891 + 1))
theorem zcV (H:H71 D σ F) (x1:GR) (x305:(List LI)) (x306:Int) (x715:Int) (x847:Int) (x891:Int) (c1:(List LI)→Int→Option (List LI)) (Hc1:∀ (x305:(List LI)) (x306:Int) (s:Nat→V),zk [(1,bG 1 x1),(2,.sl .nl (Enc.shp LI) 0 []),(3,zj (.at 3 []) (.of (x305:List LI))),(4,ji x306)] s→c1 x305 x306=some r→Run D σ (R71 r) (.run vq [.lp vq,.bk 0,.sq vj]) s) (c31:LI→Int→Option (List LI)) (Hc31:∀ (x714:LI) (x715:Int) (s:Nat→V),zk [(1,bG 1 x1),(2,.sl .nl (Enc.shp LI) 0 []),(3,zj (.at 3 []) (.of (x305:List LI))),(4,ji x306),(5,oI 5 [] (.of x714)),(7,ji x715)] s→c31 x714 x715=some r→Run D σ (R71 r) (.run vY [.lp vY,.bk 4,.sq ZP,.bk 1,.sq ZC,.lp vq,.bk 0,.sq vj]) s) (c40:LI→Int→Option (List LI)) (Hc40:∀ (x846:LI) (x847:Int) (s:Nat→V),zk [(1,bG 1 x1),(2,.sl .nl (Enc.shp LI) 0 []),(3,zj (.at 3 []) (.of (x305:List LI))),(4,ji x306),(5,oI 5 [] (.of x846)),(7,ji x715),(8,ji x847)] s→c40 x846 x847=some r→Run D σ (R71 r) (.run Yl [.lp Yl,.bk 6,.bk 5,.sq Wg,.lp vY,.bk 4,.sq ZP,.bk 1,.sq ZC,.lp vq,.bk 0,.sq vj]) s) (c43:LI→Int→Option (List LI)) (Hc43:∀ (x890:LI) (x891:Int) (s:Nat→V),zk [(1,bG 1 x1),(2,.sl .nl (Enc.shp LI) 0 []),(3,zj (.at 3 []) (.of (x305:List LI))),(4,ji x306),(5,oI 5 [] (.of x890)),(7,ji x715),(8,ji x847),(9,ji x891)] s→c43 x890 x891=some r→Run D σ (R71 r) (.run Ul [.lp Ul,.bk 8,.bk 7,.sq KM,.lp Yl,.bk 6,.bk 5,.sq Wg,.lp vY,.bk 4,.sq ZP,.bk 1,.sq ZC,.lp vq,.bk 0,.sq vj]) s) (x907:LI) (s:Nat→V) (hs:zk [(1,bG 1 x1),(2,.sl .nl (Enc.shp LI) 0 []),(3,zj (.at 3 []) (.of (x305:List LI))),(4,ji x306),(5,oI 5 [] (.of x907)),(7,ji x715),(8,ji x847),(9,ji x891)] s) (h:Y5 F x1 x305 x306 x715 x847 x891 c1 c31 c40 c43 x907=some r):Run D σ (R71 r) (.nrm [.bk 9,.sq zc0,.lp Ul,.bk 8,.bk 7,.sq KM,.lp Yl,.bk 6,.bk 5,.sq Wg,.lp vY,.bk 4,.sq ZP,.bk 1,.sq ZC,.lp vq,.bk 0,.sq vj]) s:=by
 unfold Y5 at h
 obtain ⟨h1,h2,h3,h4,h5,h7,h8,h9⟩:=hs
 refine .nbk (.nsq (rg (gm h9 fun h46=>g1 46 (ji (w64 (x891 + 1))) h46 fun h47=>gm h47 fun h9=>gq (.nlp ?_))))
 exact Hc43 x907 (w64 (x891 + 1)) _ ⟨h1,h2,h3,h4,h5,h7,h8,h9⟩ h
def Z0 (F:Nat) (x1:GR) (x305:(List LI)) (x306:Int) (x890:LI) (x715:Int) (x847:Int) (x891:Int) (c1:(List LI)→Int→Option (List LI)) (c31:LI→Int→Option (List LI)) (c40:LI→Int→Option (List LI)) (c43:LI→Int→Option (List LI)) (x905:Bool):Option (List LI):=
 bif x905 then
  (idx x890 x891).bind fun v908=>
  Y5 F x1 x305 x306 x715 x847 x891 c1 c31 c40 c43 (x890.set x891.toNat (w64 (x715 + 1)))
 else
  Y5 F x1 x305 x306 x715 x847 x891 c1 c31 c40 c43 x890
theorem M1 (H:H71 D σ F) (x1:GR) (x305:(List LI)) (x306:Int) (x890:LI) (x715:Int) (x847:Int) (x891:Int) (c1:(List LI)→Int→Option (List LI)) (Hc1:∀ (x305:(List LI)) (x306:Int) (s:Nat→V),zk [(1,bG 1 x1),(2,.sl .nl (Enc.shp LI) 0 []),(3,zj (.at 3 []) (.of (x305:List LI))),(4,ji x306)] s→c1 x305 x306=some r→Run D σ (R71 r) (.run vq [.lp vq,.bk 0,.sq vj]) s) (c31:LI→Int→Option (List LI)) (Hc31:∀ (x714:LI) (x715:Int) (s:Nat→V),zk [(1,bG 1 x1),(2,.sl .nl (Enc.shp LI) 0 []),(3,zj (.at 3 []) (.of (x305:List LI))),(4,ji x306),(5,oI 5 [] (.of x714)),(7,ji x715)] s→c31 x714 x715=some r→Run D σ (R71 r) (.run vY [.lp vY,.bk 4,.sq ZP,.bk 1,.sq ZC,.lp vq,.bk 0,.sq vj]) s) (c40:LI→Int→Option (List LI)) (Hc40:∀ (x846:LI) (x847:Int) (s:Nat→V),zk [(1,bG 1 x1),(2,.sl .nl (Enc.shp LI) 0 []),(3,zj (.at 3 []) (.of (x305:List LI))),(4,ji x306),(5,oI 5 [] (.of x846)),(7,ji x715),(8,ji x847)] s→c40 x846 x847=some r→Run D σ (R71 r) (.run Yl [.lp Yl,.bk 6,.bk 5,.sq Wg,.lp vY,.bk 4,.sq ZP,.bk 1,.sq ZC,.lp vq,.bk 0,.sq vj]) s) (c43:LI→Int→Option (List LI)) (Hc43:∀ (x890:LI) (x891:Int) (s:Nat→V),zk [(1,bG 1 x1),(2,.sl .nl (Enc.shp LI) 0 []),(3,zj (.at 3 []) (.of (x305:List LI))),(4,ji x306),(5,oI 5 [] (.of x890)),(7,ji x715),(8,ji x847),(9,ji x891)] s→c43 x890 x891=some r→Run D σ (R71 r) (.run Ul [.lp Ul,.bk 8,.bk 7,.sq KM,.lp Yl,.bk 6,.bk 5,.sq Wg,.lp vY,.bk 4,.sq ZP,.bk 1,.sq ZC,.lp vq,.bk 0,.sq vj]) s) (x905:Bool) (s:Nat→V) (hs:zk [(1,bG 1 x1),(2,.sl .nl (Enc.shp LI) 0 []),(3,zj (.at 3 []) (.of (x305:List LI))),(4,ji x306),(5,oI 5 [] (.of x890)),(7,ji x715),(8,ji x847),(9,ji x891),(66,jb x905)] s) (h:Z0 F x1 x305 x306 x890 x715 x847 x891 c1 c31 c40 c43 x905=some r):Run D σ (R71 r) (.nrm [.sq zhO,.bk 9,.sq zc0,.lp Ul,.bk 8,.bk 7,.sq KM,.lp Yl,.bk 6,.bk 5,.sq Wg,.lp vY,.bk 4,.sq ZP,.bk 1,.sq ZC,.lp vq,.bk 0,.sq vj]) s:=by
 unfold Z0 at h
 obtain ⟨h1,h2,h3,h4,h5,h7,h8,h9,h66⟩:=hs
 refine .nsq (zg h66 h (fun h=>?_) (fun h=>?_))
 · refine rg (gm h5 fun h67=>gm h9 fun h68=>gm h7 fun h69=>g1 69 (ji (w64 (x715 + 1))) h69 fun h70=>?_)
   obtain ⟨v908,Ev908,h⟩:=bind_some h
   refine gv (.ref (.at 5 []) x891.toNat [] (ji v908)) (wU (o:=.of x890) h67 h68 Ev908 rfl) fun h71=>yd (ji (w64 (x715 + 1))) (zx h71 rfl) (zx h70 rfl) (ww (by first | rfl | simp [V.toks,V.tokss,Enc.toks_enc,ya])) (gz [(1,bG 1 x1),(2,.sl .nl (Enc.shp LI) 0 []),(3,zj (.at 3 []) (.of (x305:List LI))),(4,ji x306),(5,_),(7,ji x715),(8,ji x847),(9,ji x891)] ⟨zd h1 (zH rfl rfl uIE),zd h2 rfl,zd h3 (vm rfl rfl),zd h4 rfl,zd h5 Xh,zd h7 rfl,zd h8 rfl,zd h9 rfl⟩ ?_)
   rintro s ⟨h1,h2,h3,h4,h5,h7,h8,h9⟩
   exact zcV H x1 x305 x306 x715 x847 x891 c1 Hc1 c31 Hc31 c40 Hc40 c43 Hc43 (x890.set x891.toNat (w64 (x715 + 1))) _ ⟨h1,h2,h3,h4,h5,h7,h8,h9⟩ h
 refine .skip ?_
 exact zcV H x1 x305 x306 x715 x847 x891 c1 Hc1 c31 Hc31 c40 Hc40 c43 Hc43 x890 _ ⟨h1,h2,h3,h4,h5,h7,h8,h9⟩ h
def xV (F:Nat) (x1:GR) (x305:(List LI)) (x306:Int) (x715:Int) (x847:Int) (c1:(List LI)→Int→Option (List LI)) (c31:LI→Int→Option (List LI)) (c40:LI→Int→Option (List LI)):Nat→LI→Int→Option (List LI)
 | 0,_,_=>none
 | k + 1,x890,x891=>
   bif decide (x891 < x1.1) then
    (idx x890 x847).bind fun v909=>
    bif (v909 == x715) then
     (idx x890 x891).bind fun v910=>
     bif decide (v910 < 0) then
      (uZ F x1 x847 x891).bind fun r911=>
      Z0 F x1 x305 x306 x890 x715 x847 x891 c1 c31 c40 (xV F x1 x305 x306 x715 x847 c1 c31 c40 k) r911
     else
      Z0 F x1 x305 x306 x890 x715 x847 x891 c1 c31 c40 (xV F x1 x305 x306 x715 x847 c1 c31 c40 k) false
    else
     Z0 F x1 x305 x306 x890 x715 x847 x891 c1 c31 c40 (xV F x1 x305 x306 x715 x847 c1 c31 c40 k) false
   else
    c40 x890 (w64 (x847 + 1))
theorem zi5 (H:H71 D σ F) (x1:GR) (x305:(List LI)) (x306:Int) (x715:Int) (x847:Int) (c1:(List LI)→Int→Option (List LI)) (Hc1:∀ (x305:(List LI)) (x306:Int) (s:Nat→V),zk [(1,bG 1 x1),(2,.sl .nl (Enc.shp LI) 0 []),(3,zj (.at 3 []) (.of (x305:List LI))),(4,ji x306)] s→c1 x305 x306=some r→Run D σ (R71 r) (.run vq [.lp vq,.bk 0,.sq vj]) s) (c31:LI→Int→Option (List LI)) (Hc31:∀ (x714:LI) (x715:Int) (s:Nat→V),zk [(1,bG 1 x1),(2,.sl .nl (Enc.shp LI) 0 []),(3,zj (.at 3 []) (.of (x305:List LI))),(4,ji x306),(5,oI 5 [] (.of x714)),(7,ji x715)] s→c31 x714 x715=some r→Run D σ (R71 r) (.run vY [.lp vY,.bk 4,.sq ZP,.bk 1,.sq ZC,.lp vq,.bk 0,.sq vj]) s) (c40:LI→Int→Option (List LI)) (Hc40:∀ (x846:LI) (x847:Int) (s:Nat→V),zk [(1,bG 1 x1),(2,.sl .nl (Enc.shp LI) 0 []),(3,zj (.at 3 []) (.of (x305:List LI))),(4,ji x306),(5,oI 5 [] (.of x846)),(7,ji x715),(8,ji x847)] s→c40 x846 x847=some r→Run D σ (R71 r) (.run Yl [.lp Yl,.bk 6,.bk 5,.sq Wg,.lp vY,.bk 4,.sq ZP,.bk 1,.sq ZC,.lp vq,.bk 0,.sq vj]) s):∀ (k:Nat) (x890:LI) (x891:Int) (s:Nat→V),zk [(1,bG 1 x1),(2,.sl .nl (Enc.shp LI) 0 []),(3,zj (.at 3 []) (.of (x305:List LI))),(4,ji x306),(5,oI 5 [] (.of x890)),(7,ji x715),(8,ji x847),(9,ji x891)] s→xV F x1 x305 x306 x715 x847 c1 c31 c40 k x890 x891=some r→Run D σ (R71 r) (.run Ul [.lp Ul,.bk 8,.bk 7,.sq KM,.lp Yl,.bk 6,.bk 5,.sq Wg,.lp vY,.bk 4,.sq ZP,.bk 1,.sq ZC,.lp vq,.bk 0,.sq vj]) s:=by
 intro k
 induction k with
 | zero=>intro x890 x891 s _ h;exact nm h
 | succ k ih=>
   intro x890 x891 s hs h
   rw [xV] at h
   obtain ⟨h1,h2,h3,h4,h5,h7,h8,h9⟩:=hs
   refine .seq (.seq (rg (gm h9 fun h42=>g1 1 (.ref (.bx 1) 0 [0] (ji x1.1)) h1 fun h43=>g1 43 (ji x1.1) h43 fun h44=>g2 42 44 (jb (decide (x891 < x1.1))) h42 h44 fun h45=>gq (.nsq (zg h45 h (fun h=>?_) (fun h=>?_))))))
   · refine .skip (.nsq (.seq (.block (.seq (rg (gm h5 fun h48=>gm h8 fun h49=>?_))))))
     obtain ⟨v909,Ev909,h⟩:=bind_some h
     refine gv (.ref (.at 5 []) x847.toNat [] (ji v909)) (wU (o:=.of x890) h48 h49 Ev909 rfl) fun h50=>g1 50 (ji v909) h50 fun h51=>gm h7 fun h52=>g2 51 52 (jb (v909 == x715)) h51 h52 fun h53=>gm h53 fun h54=>zU h (fun hg7 h=>?_) (fun hg7 h=>?_)
     · refine zh (ct h54 hg7) (gm h5 fun h55=>zh (ct h54 hg7) (gm h9 fun h56=>?_))
       obtain ⟨v910,Ev910,h⟩:=bind_some h
       refine zh (ct h54 hg7) (gv (.ref (.at 5 []) x891.toNat [] (ji v910)) (wU (o:=.of x890) h55 h56 Ev910 rfl) fun h57=>zh (ct h54 hg7) (g1 57 (ji v910) h57 fun h58=>zh (ct h54 hg7) (g1 58 (jb (decide (v910 < 0))) h58 fun h59=>g2 54 59 (jb (decide (v910 < 0))) (ct h54 hg7) h59 fun h60=>gm h60 fun h61=>zU h (fun hg14 h=>?_) (fun hg14 h=>?_))))
       · refine zh (ct h61 hg14) (g1 1 (gV x1) h1 fun h62=>zh (ct h61 hg14) (gm h8 fun h63=>zh (ct h61 hg14) (gm h9 fun h64=>?_)))
         obtain ⟨r911,Er911,h⟩:=bind_some h
         refine zh (ct h61 hg14) (zy (m:=0) (al:=false) (r:=Enc.enc (r911:Bool)) [Enc.enc (x1:GR),Enc.enc (x847:Int),Enc.enc (x891:Int)] (zc (v:=gV x1) h62 rfl (Enc.erase_enc (x1:GR)) (zc (v:=ji x847) h63 rfl rfl (zc (v:=ji x891) h64 rfl rfl zp))) (H.c77 _ _ _ _ Er911) H.g77 rfl rfl rfl rfl (g2 61 65 (jb r911) (ct h61 hg14) (rf (jb r911)) fun h66=>gz [(1,_),(2,_),(3,_),(4,_),(5,_),(7,_),(8,_),(9,_),(66,_)] ⟨h1,h2,h3,h4,h5,h7,h8,h9,h66⟩ ?_))
         rintro s ⟨h1,h2,h3,h4,h5,h7,h8,h9,h66⟩
         exact M1 H x1 x305 x306 x890 x715 x847 x891 c1 Hc1 c31 Hc31 c40 Hc40 (xV F x1 x305 x306 x715 x847 c1 c31 c40 k) ih r911 _ ⟨h1,h2,h3,h4,h5,h7,h8,h9,h66⟩ h
       iterate 4 refine zw (ct h61 hg14) ?_
       refine g2 61 65 (jb false) (ct h61 hg14) (rf (.tup [])) fun h66=>gz [(1,_),(2,_),(3,_),(4,_),(5,_),(7,_),(8,_),(9,_),(66,_)] ⟨h1,h2,h3,h4,h5,h7,h8,h9,h66⟩ ?_
       rintro s ⟨h1,h2,h3,h4,h5,h7,h8,h9,h66⟩
       exact M1 H x1 x305 x306 x890 x715 x847 x891 c1 Hc1 c31 Hc31 c40 Hc40 (xV F x1 x305 x306 x715 x847 c1 c31 c40 k) ih false _ ⟨h1,h2,h3,h4,h5,h7,h8,h9,h66⟩ h
     iterate 5 refine zw (ct h54 hg7) ?_
     refine g2 54 59 (jb false) (ct h54 hg7) (rf (.tup [])) fun h60=>gm h60 fun h61=>zw h61 ?_
     iterate 3 refine zw h61 ?_
     refine g2 61 65 (jb false) h61 (rf (.tup [])) fun h66=>gz [(1,_),(2,_),(3,_),(4,_),(5,_),(7,_),(8,_),(9,_),(66,_)] ⟨h1,h2,h3,h4,h5,h7,h8,h9,h66⟩ ?_
     rintro s ⟨h1,h2,h3,h4,h5,h7,h8,h9,h66⟩
     exact M1 H x1 x305 x306 x890 x715 x847 x891 c1 Hc1 c31 Hc31 c40 Hc40 (xV F x1 x305 x306 x715 x847 c1 c31 c40 k) ih false _ ⟨h1,h2,h3,h4,h5,h7,h8,h9,h66⟩ h
   refine .exit (.esq (.elp (.ebk (.nbk (.nsq (rg (gm h8 fun h40=>g1 40 (ji (w64 (x847 + 1))) h40 fun h41=>gm h41 fun h8=>gq (.nlp ?_))))))))
   exact Hc40 x890 (w64 (x847 + 1)) _ ⟨h1,h2,h3,h4,h5,h7,h8⟩ h
def w7 (F:Nat) (x1:GR) (x305:(List LI)) (x306:Int) (x715:Int) (c1:(List LI)→Int→Option (List LI)) (c31:LI→Int→Option (List LI)):Nat→LI→Int→Option (List LI)
 | 0,_,_=>none
 | k + 1,x846,x847=>
   bif decide (x847 < x1.1) then
    xV F x1 x305 x306 x715 x847 c1 c31 (w7 F x1 x305 x306 x715 c1 c31 k) F x846 0
   else
    c31 x846 (w64 (x715 + 1))
theorem zjw (H:H71 D σ F) (x1:GR) (x305:(List LI)) (x306:Int) (x715:Int) (c1:(List LI)→Int→Option (List LI)) (Hc1:∀ (x305:(List LI)) (x306:Int) (s:Nat→V),zk [(1,bG 1 x1),(2,.sl .nl (Enc.shp LI) 0 []),(3,zj (.at 3 []) (.of (x305:List LI))),(4,ji x306)] s→c1 x305 x306=some r→Run D σ (R71 r) (.run vq [.lp vq,.bk 0,.sq vj]) s) (c31:LI→Int→Option (List LI)) (Hc31:∀ (x714:LI) (x715:Int) (s:Nat→V),zk [(1,bG 1 x1),(2,.sl .nl (Enc.shp LI) 0 []),(3,zj (.at 3 []) (.of (x305:List LI))),(4,ji x306),(5,oI 5 [] (.of x714)),(7,ji x715)] s→c31 x714 x715=some r→Run D σ (R71 r) (.run vY [.lp vY,.bk 4,.sq ZP,.bk 1,.sq ZC,.lp vq,.bk 0,.sq vj]) s):∀ (k:Nat) (x846:LI) (x847:Int) (s:Nat→V),zk [(1,bG 1 x1),(2,.sl .nl (Enc.shp LI) 0 []),(3,zj (.at 3 []) (.of (x305:List LI))),(4,ji x306),(5,oI 5 [] (.of x846)),(7,ji x715),(8,ji x847)] s→w7 F x1 x305 x306 x715 c1 c31 k x846 x847=some r→Run D σ (R71 r) (.run Yl [.lp Yl,.bk 6,.bk 5,.sq Wg,.lp vY,.bk 4,.sq ZP,.bk 1,.sq ZC,.lp vq,.bk 0,.sq vj]) s:=by
 intro k
 induction k with
 | zero=>intro x846 x847 s _ h;exact nm h
 | succ k ih=>
   intro x846 x847 s hs h
   rw [w7] at h
   obtain ⟨h1,h2,h3,h4,h5,h7,h8⟩:=hs
   refine .seq (.seq (rg (gm h8 fun h36=>g1 1 (.ref (.bx 1) 0 [0] (ji x1.1)) h1 fun h37=>g1 37 (ji x1.1) h37 fun h38=>g2 36 38 (jb (decide (x847 < x1.1))) h36 h38 fun h39=>gq (.nsq (zg h39 h (fun h=>?_) (fun h=>?_))))))
   · refine .skip (.nsq (.seq (.block (.seq (rg (g0 (ji 0) fun h9=>gq (.nsq (.block (.loop ?_)))))))))
     exact zi5 H x1 x305 x306 x715 x847 c1 Hc1 c31 Hc31 (w7 F x1 x305 x306 x715 c1 c31 k) ih F x846 0 _ ⟨h1,h2,h3,h4,h5,h7,h8,h9⟩ h
   refine .exit (.esq (.elp (.ebk (.nbk (.nsq (rg (gm h7 fun h34=>g1 34 (ji (w64 (x715 + 1))) h34 fun h35=>gm h35 fun h7=>gq (.nlp ?_))))))))
   exact Hc31 x846 (w64 (x715 + 1)) _ ⟨h1,h2,h3,h4,h5,h7⟩ h
def wY (F:Nat) (x1:GR) (x305:(List LI)) (x306:Int) (c1:(List LI)→Int→Option (List LI)):Nat→LI→Int→Option (List LI)
 | 0,_,_=>none
 | k + 1,x714,x715=>
   bif decide (x715 < x1.1) then
    w7 F x1 x305 x306 x715 c1 (wY F x1 x305 x306 c1 k) F x714 0
   else
    (wJ x305 [x714]).bind fun ap912=>
    c1 ap912 (w64 (x306 + 1))
theorem zh6 (H:H71 D σ F) (x1:GR) (x305:(List LI)) (x306:Int) (c1:(List LI)→Int→Option (List LI)) (Hc1:∀ (x305:(List LI)) (x306:Int) (s:Nat→V),zk [(1,bG 1 x1),(2,.sl .nl (Enc.shp LI) 0 []),(3,zj (.at 3 []) (.of (x305:List LI))),(4,ji x306)] s→c1 x305 x306=some r→Run D σ (R71 r) (.run vq [.lp vq,.bk 0,.sq vj]) s):∀ (k:Nat) (x714:LI) (x715:Int) (s:Nat→V),zk [(1,bG 1 x1),(2,.sl .nl (Enc.shp LI) 0 []),(3,zj (.at 3 []) (.of (x305:List LI))),(4,ji x306),(5,oI 5 [] (.of x714)),(7,ji x715)] s→wY F x1 x305 x306 c1 k x714 x715=some r→Run D σ (R71 r) (.run vY [.lp vY,.bk 4,.sq ZP,.bk 1,.sq ZC,.lp vq,.bk 0,.sq vj]) s:=by
 intro k
 induction k with
 | zero=>intro x714 x715 s _ h;exact nm h
 | succ k ih=>
   intro x714 x715 s hs h
   rw [wY] at h
   obtain ⟨h1,h2,h3,h4,h5,h7⟩:=hs
   refine .seq (.seq (rg (gm h7 fun h30=>g1 1 (.ref (.bx 1) 0 [0] (ji x1.1)) h1 fun h31=>g1 31 (ji x1.1) h31 fun h32=>g2 30 32 (jb (decide (x715 < x1.1))) h30 h32 fun h33=>gq (.nsq (zg h33 h (fun h=>?_) (fun h=>?_))))))
   · refine .skip (.nsq (.seq (.block (.seq (rg (g0 (ji 0) fun h8=>gq (.nsq (.block (.loop ?_)))))))))
     exact zjw H x1 x305 x306 x715 c1 Hc1 (wY F x1 x305 x306 c1 k) ih F x714 0 _ ⟨h1,h2,h3,h4,h5,h7,h8⟩ h
   refine .exit (.esq (.elp (.ebk (.nsq (zo (zT (Lm (x:=5) (v:=oI 5 [] (.of x714)) [.at 5 []] (by exact (za h5 rfl (zl (r:=5) (p:=[]) rfl rfl))) yi (fun s46 hz46=>?_))))))))
   refine ez [(1,bG 1 x1),(2,.sl .nl (Enc.shp LI) 0 []),(3,zj (.at 3 []) (.of (x305:List LI))),(4,ji x306),(5,eL x714),(74,.gone),(75,.gone)] ⟨hz46 1 (bG 1 x1) (bG 1 x1) (za h1 rfl (zi rfl mIE)) (z9 rfl zIE rfl),hz46 2 (.sl .nl (Enc.shp LI) 0 []) (.sl .nl (Enc.shp LI) 0 []) (za h2 rfl rfl) rfl,hz46 3 (zj (.at 3 []) (.of (x305:List LI))) (zj (.at 3 []) (.of (x305:List LI))) (za h3 rfl (zl (r:=3) (p:=[]) rfl rfl)) (XJ rfl rfl),hz46 4 (ji x306) (ji x306) (za h4 rfl mi) rfl,hz46 5 (oI 5 [] (.of x714)) (eL x714) (za h5 rfl (zl (r:=5) (p:=[]) rfl rfl)) Xi,hz46 74 .gone .gone (zb rfl) rfl,hz46 75 .gone .gone (zb rfl) rfl⟩ ?_
   rintro s ⟨h1,h2,h3,h4,h5,h74,h75⟩
   refine gm h3 fun h72=>gm h5 fun h73=>xq [(73,eL x714)] [eL x714] h73 rfl rfl h74 ?_
   obtain ⟨ap912,Eap912,h⟩:=bind_some h
   refine Xd (q:=3) (p:=[]) (o:=.of (x305:List LI)) (ys:=([x714]:List LI)) (t2:=.at 74 []) (lo2:=0) h72 rfl rfl h75 (ZB (o:=.of (x305:List LI)) Eap912 trivial) (fun s47 ha47=>gm (rf (zj (.at 75 []) (.of (ap912:List LI)))) fun h3=>yL (yr (r:=75) (x:=3) (v:=_) h3 rfl (fun s48 hz48=>?_)))
   refine ez [(1,bG 1 x1),(2,.sl .nl (Enc.shp LI) 0 []),(3,zj (.at 3 []) (.of (ap912:List LI))),(4,ji x306)] ⟨hz48 1 _ _ (show s47 1=(bG 1 x1) from zL ha47 h1 (zi rfl mIE)) (zi rfl mIE),hz48 2 _ (.sl .nl (Enc.shp LI) 0 []) (show s47 2=(.sl .nl (Enc.shp LI) 0 []) from zL ha47 h2 rfl) rfl,hz48 3 _ _ h3 (zl (r:=75) (p:=[]) rfl rfl),hz48 4 _ _ (show s47 4=(ji x306) from zL ha47 h4 mi) mi⟩ ?_
   rintro s ⟨h1,h2,h3,h4⟩
   refine .nbk (.nsq (rg (gm h4 fun h15=>g1 15 (ji (w64 (x306 + 1))) h15 fun h16=>gm h16 fun h4=>gq (.nlp ?_))))
   exact Hc1 ap912 (w64 (x306 + 1)) _ ⟨h1,h2,h3,h4⟩ h
def uq (F:Nat) (x1:GR) (x305:(List LI)) (x306:Int) (c1:(List LI)→Int→Option (List LI)):Nat→LI→Int→Option (List LI)
 | 0,_,_=>none
 | k + 1,x611,x612=>
   bif decide (x612 < x1.1) then
    (wJ x611 [(-1)]).bind fun ap614=>
    (uq F x1 x305 x306 c1 k) ap614 (w64 (x612 + 1))
   else
    (idx x611 x306).bind fun v615=>
    wY F x1 x305 x306 c1 F (x611.set x306.toNat 0) 0
theorem zjR (H:H71 D σ F) (x1:GR) (x305:(List LI)) (x306:Int) (c1:(List LI)→Int→Option (List LI)) (Hc1:∀ (x305:(List LI)) (x306:Int) (s:Nat→V),zk [(1,bG 1 x1),(2,.sl .nl (Enc.shp LI) 0 []),(3,zj (.at 3 []) (.of (x305:List LI))),(4,ji x306)] s→c1 x305 x306=some r→Run D σ (R71 r) (.run vq [.lp vq,.bk 0,.sq vj]) s):∀ (k:Nat) (x611:LI) (x612:Int) (s:Nat→V),zk [(1,bG 1 x1),(2,.sl .nl (Enc.shp LI) 0 []),(3,zj (.at 3 []) (.of (x305:List LI))),(4,ji x306),(5,oI 5 [] (.of x611)),(6,ji x612)] s→uq F x1 x305 x306 c1 k x611 x612=some r→Run D σ (R71 r) (.run zjd [.lp zjd,.bk 2,.sq zhz,.bk 1,.sq ZC,.lp vq,.bk 0,.sq vj]) s:=by
 intro k
 induction k with
 | zero=>intro x611 x612 s _ h;exact nm h
 | succ k ih=>
   intro x611 x612 s hs h
   rw [uq] at h
   obtain ⟨h1,h2,h3,h4,h5,h6⟩:=hs
   refine .seq (.seq (rg (gm h6 fun h18=>g1 1 (.ref (.bx 1) 0 [0] (ji x1.1)) h1 fun h19=>g1 19 (ji x1.1) h19 fun h20=>g2 18 20 (jb (decide (x612 < x1.1))) h18 h20 fun h21=>gq (.nsq (zg h21 h (fun h=>?_) (fun h=>?_))))))
   · refine .skip (.nsq (.seq (.block (zo (zT ?_)))))
     refine ez [(1,_),(2,_),(3,_),(4,_),(5,_),(6,_),(25,_),(26,_)] ⟨za h1 rfl (zi rfl mIE),za h2 rfl rfl,za h3 rfl (zl (r:=3) (p:=[]) rfl rfl),za h4 rfl mi,za h5 rfl (zl (r:=5) (p:=[]) rfl rfl),za h6 rfl mi,zb rfl,zb rfl⟩ ?_
     rintro s ⟨h1,h2,h3,h4,h5,h6,h25,h26⟩
     refine gm h5 fun h24=>xq [] [Enc.enc ((-1):Int)] trivial rfl rfl h25 ?_
     obtain ⟨ap614,Eap614,h⟩:=bind_some h
     refine Xd (q:=5) (p:=[]) (o:=.of (x611:LI)) (ys:=([(-1)]:LI)) (t2:=.at 25 []) (lo2:=0) h24 rfl rfl h26 (ZB (o:=.of (x611:LI)) Eap614 trivial) (fun s43 ha43=>gm (rf (oI 26 [] (.of ap614))) fun h5=>yL (yr (r:=26) (x:=5) (v:=_) h5 rfl (fun s44 hz44=>?_)))
     refine ez [(1,bG 1 x1),(2,.sl .nl (Enc.shp LI) 0 []),(3,zj (.at 3 []) (.of (x305:List LI))),(4,ji x306),(5,oI 5 [] (.of ap614)),(6,ji x612)] ⟨hz44 1 _ _ (show s43 1=(bG 1 x1) from zL ha43 h1 (zi rfl mIE)) (zi rfl mIE),hz44 2 _ (.sl .nl (Enc.shp LI) 0 []) (show s43 2=(.sl .nl (Enc.shp LI) 0 []) from zL ha43 h2 rfl) rfl,hz44 3 _ _ (show s43 3=(zj (.at 3 []) (.of (x305:List LI))) from zL ha43 h3 (zl (r:=3) (p:=[]) rfl rfl)) (zl (r:=3) (p:=[]) rfl rfl),hz44 4 _ _ (show s43 4=(ji x306) from zL ha43 h4 mi) mi,hz44 5 _ _ h5 (zl (r:=26) (p:=[]) rfl rfl),hz44 6 _ _ (show s43 6=(ji x612) from zL ha43 h6 mi) mi⟩ ?_
     rintro s ⟨h1,h2,h3,h4,h5,h6⟩
     refine .nbk (.nsq (rg (gm h6 fun h22=>g1 22 (ji (w64 (x612 + 1))) h22 fun h23=>gm h23 fun h6=>gq (.nlp ?_))))
     exact ih ap614 (w64 (x612 + 1)) _ ⟨h1,h2,h3,h4,h5,h6⟩ h
   refine .exit (.esq (.elp (.ebk (.nsq (.seq (rg (gm h5 fun h27=>gm h4 fun h28=>?_)))))))
   obtain ⟨v615,Ev615,h⟩:=bind_some h
   refine gv (.ref (.at 5 []) x306.toNat [] (ji v615)) (wU (o:=.of x611) h27 h28 Ev615 rfl) fun h29=>yd (ji 0) (zx h29 rfl) (zx rfl rfl) (ww (by first | rfl | simp [V.toks,V.tokss,Enc.toks_enc,ya])) (gz [(1,bG 1 x1),(2,.sl .nl (Enc.shp LI) 0 []),(3,zj (.at 3 []) (.of (x305:List LI))),(4,ji x306),(5,_)] ⟨zd h1 (zH rfl rfl uIE),zd h2 rfl,zd h3 (vm rfl rfl),zd h4 rfl,zd h5 Xh⟩ ?_)
   rintro s ⟨h1,h2,h3,h4,h5⟩
   refine .nsq (.seq (.seq (rg (g0 (ji 0) fun h7=>gq (.nsq (.block (.loop ?_)))))))
   exact zh6 H x1 x305 x306 c1 Hc1 F (x611.set x306.toNat 0) 0 _ ⟨h1,h2,h3,h4,h5,h7⟩ h
def vF (F:Nat) (x1:GR) :Nat→(List LI)→Int→Option (List LI)
 | 0,_,_=>none
 | k + 1,x305,x306=>
   bif decide (x306 < x1.1) then
    uq F x1 x305 x306 (vF F x1 k) F [] 0
   else
    some x305
theorem zii (H:H71 D σ F) (x1:GR) :∀ (k:Nat) (x305:(List LI)) (x306:Int) (s:Nat→V),zk [(1,bG 1 x1),(2,.sl .nl (Enc.shp LI) 0 []),(3,zj (.at 3 []) (.of (x305:List LI))),(4,ji x306)] s→vF F x1 k x305 x306=some r→Run D σ (R71 r) (.run vq [.lp vq,.bk 0,.sq vj]) s:=by
 intro k
 induction k with
 | zero=>intro x305 x306 s _ h;exact nm h
 | succ k ih=>
   intro x305 x306 s hs h
   rw [vF] at h
   obtain ⟨h1,h2,h3,h4⟩:=hs
   refine .seq (.seq (rg (gm h4 fun h11=>g1 1 (.ref (.bx 1) 0 [0] (ji x1.1)) h1 fun h12=>g1 12 (ji x1.1) h12 fun h13=>g2 11 13 (jb (decide (x306 < x1.1))) h11 h13 fun h14=>gq (.nsq (zg h14 h (fun h=>?_) (fun h=>?_))))))
   · refine .skip (.nsq (.seq (.block (.seq (zo (zT ?_))))))
     refine ez [(1,_),(2,_),(3,_),(4,_),(17,_)] ⟨za h1 rfl (zi rfl mIE),za h2 rfl rfl,za h3 rfl (zl (r:=3) (p:=[]) rfl rfl),za h4 rfl mi,zb rfl⟩ ?_
     rintro s ⟨h1,h2,h3,h4,h17⟩
     refine xq [] [] trivial rfl rfl h17 (gm (rf (oI 17 [] (.of []))) fun h5=>yL (yr (r:=17) (x:=5) (v:=_) h5 rfl (fun s35 hz35=>?_)))
     refine ez [(1,bG 1 x1),(2,.sl .nl (Enc.shp LI) 0 []),(3,zj (.at 3 []) (.of (x305:List LI))),(4,ji x306),(5,oI 5 [] (.of []))] ⟨hz35 1 _ _ h1 (zi rfl mIE),hz35 2 _ _ h2 rfl,hz35 3 _ _ h3 (zl (r:=3) (p:=[]) rfl rfl),hz35 4 _ _ h4 mi,hz35 5 _ _ h5 (zl (r:=17) (p:=[]) rfl rfl)⟩ ?_
     rintro s ⟨h1,h2,h3,h4,h5⟩
     refine .nsq (.seq (.seq (rg (g0 (ji 0) fun h6=>gq (.nsq (.block (.loop ?_)))))))
     exact zjR H x1 x305 x306 (vF F x1 k) ih F [] 0 _ ⟨h1,h2,h3,h4,h5,h6⟩ h
   refine .exit (.esq (.elp (.ebk (.nsq (.seq (rg (gm h3 fun h76=>gm h76 fun h2=>yL (yr (r:=3) (x:=2) (v:=_) h2 rfl (fun s49 hz49=>?_)))))))))
   refine ez [(2,zj (.at 2 []) (.of (x305:List LI)))] (hz49 2 _ _ h2 (zl (r:=3) (p:=[]) rfl rfl)) ?_
   rintro s h2
   refine .nsq (.ret ?_)
   obtain rfl:=oi h
   exact rrA (zf h2) (xS (wl (o:=.of x305)))
def XN (F:Nat) (x1:GR):Option (List LI):=
 vF F x1 F [] 0
theorem t71 (H:H71 D σ F) (x1:GR) (s:Nat→V) (hs:zk [(0,gV x1)] s) (h:XN F x1=some r):Run D σ (R71 r) (.run A71 []) s:=by
 unfold XN at h
 have h0:=hs
 refine .seq (zo (zT ?_))
 refine ez [(0,_),(1,_)] ⟨za h0 rfl mIE,zb rfl⟩ ?_
 rintro s ⟨h0,h1⟩
 refine xo (gV x1) (zx h0 rfl) h1 rfl (g0 (.sl .nl (Enc.shp LI) 0 []) fun h2=>gq (.nsq (.seq (zo (zT ?_)))))
 refine ez [(1,_),(2,_),(10,_)] ⟨za rfl rfl (zi rfl mIE),za h2 rfl rfl,zb rfl⟩ ?_
 rintro s ⟨h1,h2,h10⟩
 refine xq [] [] trivial rfl rfl h10 (gm (rf (zj (.at 10 []) (.of ([]:List LI)))) fun h3=>yL (yr (r:=10) (x:=3) (v:=_) h3 rfl (fun s3 hz3=>?_)))
 refine ez [(1,bG 1 x1),(2,.sl .nl (Enc.shp LI) 0 []),(3,zj (.at 3 []) (.of ([]:List LI)))] ⟨hz3 1 _ _ h1 (zi rfl mIE),hz3 2 _ _ h2 rfl,hz3 3 _ _ h3 (zl (r:=10) (p:=[]) rfl rfl)⟩ ?_
 rintro s ⟨h1,h2,h3⟩
 refine .nsq (.seq (.seq (rg (g0 (ji 0) fun h4=>gq (.nsq (.block (.loop ?_)))))))
 exact zii H x1 F [] 0 _ ⟨h1,h2,h3,h4⟩ h
end
def e71 (F:Nat):Ent:=ent 71 (fun (x:(GR×Unit))=>XN F x.1) (fun (r:(List LI))=>(Enc.enc (r:(List LI)))) 0 true []
abbrev C71 (D:List V→Option V) (F:Nat):Prop:=∀ (x0:GR) r,XN F x0=some r→D [Enc.enc x0]=some (Enc.enc (r:(List LI)))
theorem p71 {F:Nat}:C71 (e71 F).den F:=fun x0 _ h=>zK (x0,()) h
theorem o71 (hF:zr Try.prog D σ) (H:H71 D σ F):(e71 F).Ok Try.prog:=okZ (f:=71) Try.func71 fun ⟨x0,_⟩ y hy=>cR hF Try.func71 c71 (t71 H x0 _ rfl hy)
def zqP:AC:=(.cond (.t 19) .skip (.exit 0))
def ztx:AC:=(.cond (.t 27) (.reg [.clr [30,31]] [jm 28 7,jm 29 9,jx 30 (.lit i0 1 [(0,0,.t 29)]),jx 31 (.app .s (.t 28) (.t 30)),jm 7 31] [.home 31 7]) .skip)
def zlJ:AC:=(rr [jm 20 9,jv 21 (.bin .add (.t 20) (jn 1)),jm 9 21])
def zo1:AC:=(.seq (.block 1 (.seq (rr [jm 22 8,jm 23 9,jv 24 (.idx (.t 22) (.t 23) 1),jl 25 24,jm 26 2,jx 27 (.call (jf 61) [.t 25,jn 0,.t 26])]) ztx)) zlJ)
def ND:AC:=(.seq (.seq (rr [jm 16 9,jv 17 (.fld (.t 3) 0 0),jl 18 17,jv 19 (.bin .lss (.t 16) (.t 18))]) zqP) zo1)
def ze8:AC:=(.seq (.reg [] [jm 32 7,jm 6 32] [.home 7 6]) .ret)
def zut:AC:=(.block 0 (.loop ND))
def zsu:AC:=(.seq (.seq (rr [jv 9 (.mov (jn 0))]) zut) ze8)
def zsG:AC:=(.seq (.reg [.clr [10]] [jx 10 (.lit i0 0 []),jv 11 (.load (.ag [.s,.p]) (.t 3)),jx 12 (.call (jf 71) [.t 11]),jm 13 1,jv 14 (.idx (.t 12) (.t 13) 1),jv 15 (.load .p (.t 14)),jm 7 10,jm 8 15] [.home 10 7]) zsu)
def A44:AC:=(.seq (.reg [.clr [3]] [jx 3 (.box (.t 0)),jv 6 (.mov (.k (.sl .nl .s 0 [])))] []) zsG)
def zvV:List An:=[⟨0,[.clr [3]],[],[],[]⟩,⟨1,[.clr [10]],[],[],[.home 10 7]⟩,⟨6,[.clr [30,31]],[],[],[.home 31 7]⟩,⟨7,[],[],[],[.home 7 6]⟩]
theorem c44:cq Try.prog Try.f44 zvV=some A44:=by kernel_rfl
structure H44 (D:Den) (σ:Sig) (F:Nat):Prop where
 c71:C71 (D 71) F
 g71:σ 71=some (0,true)
 c61:C61 (D 61) F
 g61:σ 61=some (0,false)
abbrev R44 (r:LI):(Nat→V)→Prop:=RR Try.prog [.tmp 6] 0 false (eL r)
section
variable {r:LI}
def ZG (F:Nat) (r3:Int) (x1:GR) (v5:LI) (x12:Int) (c1:LI→Int→Option LI) (x21:LI):Option LI:=
 c1 x21 (w64 (x12 + 1))
theorem zcb (H:H44 D σ F) (r3:Int) (x1:GR) (v5:LI) (x12:Int) (c1:LI→Int→Option LI) (Hc1:∀ (x11:LI) (x12:Int) (s:Nat→V),zk [(2,ji r3),(3,bG 3 x1),(6,nI),(7,oI 7 [] (.of x11)),(8,eL v5),(9,ji x12)] s→c1 x11 x12=some r→Run D σ (R44 r) (.run ND [.lp ND,.bk 0,.sq ze8]) s) (x21:LI) (s:Nat→V) (hs:zk [(2,ji r3),(3,bG 3 x1),(6,nI),(7,oI 7 [] (.of x21)),(8,eL v5),(9,ji x12)] s) (h:ZG F r3 x1 v5 x12 c1 x21=some r):Run D σ (R44 r) (.nrm [.bk 1,.sq zlJ,.lp ND,.bk 0,.sq ze8]) s:=by
 unfold ZG at h
 obtain ⟨h2,h3,h6,h7,h8,h9⟩:=hs
 refine .nbk (.nsq (rg (gm h9 fun h20=>g1 20 (ji (w64 (x12 + 1))) h20 fun h21=>gm h21 fun h9=>gq (.nlp ?_))))
 exact Hc1 x21 (w64 (x12 + 1)) _ ⟨h2,h3,h6,h7,h8,h9⟩ h
def xZ (F:Nat) (r3:Int) (x1:GR) (v5:LI) :Nat→LI→Int→Option LI
 | 0,_,_=>none
 | k + 1,x11,x12=>
   bif decide (x12 < x1.1) then
    (idx v5 x12).bind fun v18=>
    (Wo F v18 0 r3).bind fun r19=>
    bif r19 then
     (wJ x11 [x12]).bind fun ap22=>
     ZG F r3 x1 v5 x12 (xZ F r3 x1 v5 k) ap22
    else
     ZG F r3 x1 v5 x12 (xZ F r3 x1 v5 k) x11
   else
    some x11
theorem ziY (H:H44 D σ F) (r3:Int) (x1:GR) (v5:LI) :∀ (k:Nat) (x11:LI) (x12:Int) (s:Nat→V),zk [(2,ji r3),(3,bG 3 x1),(6,nI),(7,oI 7 [] (.of x11)),(8,eL v5),(9,ji x12)] s→xZ F r3 x1 v5 k x11 x12=some r→Run D σ (R44 r) (.run ND [.lp ND,.bk 0,.sq ze8]) s:=by
 intro k
 induction k with
 | zero=>intro x11 x12 s _ h;exact nm h
 | succ k ih=>
   intro x11 x12 s hs h
   rw [xZ] at h
   obtain ⟨h2,h3,h6,h7,h8,h9⟩:=hs
   refine .seq (.seq (rg (gm h9 fun h16=>g1 3 (.ref (.bx 3) 0 [0] (ji x1.1)) h3 fun h17=>g1 17 (ji x1.1) h17 fun h18=>g2 16 18 (jb (decide (x12 < x1.1))) h16 h18 fun h19=>gq (.nsq (zg h19 h (fun h=>?_) (fun h=>?_))))))
   · refine .skip (.nsq (.seq (.block (.seq (rg (gm h8 fun h22=>gm h9 fun h23=>?_))))))
     obtain ⟨v18,Ev18,h⟩:=bind_some h
     refine gv (.ref .sh 0 [] (ji v18)) (yq (t:=.sh) (lo:=0) (xs:=v5) h22 h23 Ev18 rfl rfl) fun h24=>g1 24 (ji v18) h24 fun h25=>gm h2 fun h26=>?_
     obtain ⟨r19,Er19,h⟩:=bind_some h
     refine zy (m:=0) (al:=false) (r:=Enc.enc (r19:Bool)) [Enc.enc (v18:Int),Enc.enc (0:Int),Enc.enc (r3:Int)] (zc (v:=ji v18) h25 rfl rfl (zc (v:=ji 0) rfl rfl rfl (zc (v:=ji r3) h26 rfl rfl zp))) (H.c61 _ _ _ _ Er19) H.g61 rfl rfl rfl rfl (gq (.nsq (zg rfl h (fun h=>?_) (fun h=>?_))))
     · refine zo (zT ?_)
       refine ez [(2,_),(3,_),(6,_),(7,_),(8,_),(9,_),(30,_),(31,_)] ⟨za h2 rfl mi,za h3 rfl (zi rfl mIE),za h6 rfl rfl,za h7 rfl (zl (r:=7) (p:=[]) rfl rfl),za h8 rfl me,za h9 rfl mi,zb rfl,zb rfl⟩ ?_
       rintro s ⟨h2,h3,h6,h7,h8,h9,h30,h31⟩
       refine gm h7 fun h28=>gm h9 fun h29=>xq [(29,ji x12)] [Enc.enc (x12:Int)] h29 rfl rfl h30 ?_
       obtain ⟨ap22,Eap22,h⟩:=bind_some h
       refine Xd (q:=7) (p:=[]) (o:=.of (x11:LI)) (ys:=([x12]:LI)) (t2:=.at 30 []) (lo2:=0) h28 rfl rfl h31 (ZB (o:=.of (x11:LI)) Eap22 trivial) (fun s20 ha20=>gm (rf (oI 31 [] (.of ap22))) fun h7=>yL (yr (r:=31) (x:=7) (v:=_) h7 rfl (fun s21 hz21=>?_)))
       refine ez [(2,ji r3),(3,bG 3 x1),(6,nI),(7,oI 7 [] (.of ap22)),(8,eL v5),(9,ji x12)] ⟨hz21 2 _ _ (show s20 2=(ji r3) from zL ha20 h2 mi) mi,hz21 3 _ _ (show s20 3=(bG 3 x1) from zL ha20 h3 (zi rfl mIE)) (zi rfl mIE),hz21 6 _ nI (show s20 6=nI from zL ha20 h6 rfl) rfl,hz21 7 _ _ h7 (zl (r:=31) (p:=[]) rfl rfl),hz21 8 _ _ (show s20 8=(eL v5) from zL ha20 h8 me) me,hz21 9 _ _ (show s20 9=(ji x12) from zL ha20 h9 mi) mi⟩ ?_
       rintro s ⟨h2,h3,h6,h7,h8,h9⟩
       exact zcb H r3 x1 v5 x12 (xZ F r3 x1 v5 k) ih ap22 _ ⟨h2,h3,h6,h7,h8,h9⟩ h
     refine .skip ?_
     exact zcb H r3 x1 v5 x12 (xZ F r3 x1 v5 k) ih x11 _ ⟨h2,h3,h6,h7,h8,h9⟩ h
   refine .exit (.esq (.elp (.ebk (.nsq (.seq (rg (gm h7 fun h32=>gm h32 fun h6=>yL (yr (r:=7) (x:=6) (v:=_) h6 rfl (fun s22 hz22=>?_)))))))))
   refine ez [(6,oI 6 [] (.of x11))] (hz22 6 _ _ h6 (zl (r:=7) (p:=[]) rfl rfl)) ?_
   rintro s h6
   refine .nsq (.ret ?_)
   obtain rfl:=oi h
   exact rrA (zf h6) (ud (wl (o:=.of x11)) (wx rfl))
def ZY (F:Nat) (x1:GR) (x2:Int) (r3:Int):Option LI:=
 (XN F x1).bind fun r4=>
 (idx r4 x2).bind fun v5=>
 xZ F r3 x1 v5 F [] 0
theorem t44 (H:H44 D σ F) (x1:GR) (x2:Int) (r3:Int) (s:Nat→V) (hs:zk [(0,gV x1),(1,ji x2),(2,ji r3)] s) (h:ZY F x1 x2 r3=some r):Run D σ (R44 r) (.run A44 []) s:=by
 unfold ZY at h
 obtain ⟨h0,h1,h2⟩:=hs
 refine .seq (zo (zT ?_))
 refine ez [(0,_),(1,_),(2,_),(3,_)] ⟨za h0 rfl mIE,za h1 rfl mi,za h2 rfl mi,zb rfl⟩ ?_
 rintro s ⟨h0,h1,h2,h3⟩
 refine xo (gV x1) (zx h0 rfl) h3 rfl (g0 nI fun h6=>gq (.nsq (.seq (zo (zT ?_)))))
 refine ez [(1,_),(2,_),(3,_),(6,_),(10,_)] ⟨za h1 rfl mi,za h2 rfl mi,za rfl rfl (zi rfl mIE),za h6 rfl rfl,zb rfl⟩ ?_
 rintro s ⟨h1,h2,h3,h6,h10⟩
 refine xq [] [] trivial rfl rfl h10 (g1 3 (gV x1) h3 fun h11=>?_)
 obtain ⟨r4,Er4,h⟩:=bind_some h
 refine zy (m:=0) (al:=true) (r:=Enc.enc (r4:(List LI))) [Enc.enc (x1:GR)] (zc (v:=gV x1) h11 rfl (Enc.erase_enc (x1:GR)) zp) (H.c71 _ _ Er4) H.g71 (X0 (vp (v:=gV x1) h11 rfl rfl XO)) rfl rfl rfl (gm h1 fun h13=>?_)
 obtain ⟨v5,Ev5,h⟩:=bind_some h
 refine gv (.ref .sh 0 [] (eL v5)) (yq (t:=.sh) (lo:=0) (xs:=r4) rfl h13 Ev5 rfl rfl) fun h14=>g1 14 (eL v5) h14 fun h15=>gm (rf (oI 10 [] (.of []))) fun h7=>gm h15 fun h8=>yL (yr (r:=10) (x:=7) (v:=_) h7 rfl (fun s3 hz3=>?_))
 refine ez [(2,ji r3),(3,bG 3 x1),(6,nI),(7,oI 7 [] (.of [])),(8,eL v5)] ⟨hz3 2 _ _ h2 mi,hz3 3 _ _ h3 (zi rfl mIE),hz3 6 _ _ h6 rfl,hz3 7 _ _ h7 (zl (r:=10) (p:=[]) rfl rfl),hz3 8 _ _ h8 me⟩ ?_
 rintro s ⟨h2,h3,h6,h7,h8⟩
 refine .nsq (.seq (.seq (rg (g0 (ji 0) fun h9=>gq (.nsq (.block (.loop ?_)))))))
 exact ziY H r3 x1 v5 F [] 0 _ ⟨h2,h3,h6,h7,h8,h9⟩ h
end
def e44 (F:Nat):Ent:=ent 44 (fun (x:(GR×Int×Int×Unit))=>ZY F x.1 x.2.1 x.2.2.1) (fun (r:LI)=>(eL r)) 0 false []
abbrev C44 (D:List V→Option V) (F:Nat):Prop:=∀ (x0:GR) (x1:Int) (x2:Int) r,ZY F x0 x1 x2=some r→D [Enc.enc x0,Enc.enc x1,Enc.enc x2]=some (eL r)
theorem p44 {F:Nat}:C44 (e44 F).den F:=fun x0 x1 x2 _ h=>zK (x0,x1,x2,()) h
theorem o44 (hF:zr Try.prog D σ) (H:H44 D σ F):(e44 F).Ok Try.prog:=okZ (f:=44) Try.func44 fun ⟨x0,x1,x2,_⟩ y hy=>cR hF Try.func44 c44 (t44 H x0 x1 x2 _ ⟨rfl,rfl,rfl⟩ hy)
def zt8:AC:=(.cond (.t 13) .skip (.exit 0))
def zst:AC:=(.cond (.t 19) .skip (.exit 2))
def zqf:AC:=(rr [jm 20 6,jv 21 (.bin .add (.t 20) (jn 1)),jm 6 21])
def zte:AC:=(.seq (.block 3 (rr [jm 22 4,jv 23 (.load (.ag [.s,.p]) (.t 1)),jm 24 5,jm 25 6,jx 26 (.call (jf 44) [.t 23,.t 24,.t 25]),jk 27 26,jv 28 (.bin .sub (.t 27) (jn 1)),jm 29 6,jv 30 (.bin .mul (jn 2) (.t 29)),jv 31 (.bin .add (.t 28) (.t 30)),jv 32 (.bin .sub (.t 31) (jn 1)),jm 33 6,jv 34 (.bin .mul (jn 2) (.t 33)),jv 35 (.bin .quo (.t 32) (.t 34)),jx 36 (.call (jf 43) [.t 22,.t 35]),jm 4 36])) zqf)
def zi8:AC:=(.seq (.seq (rr [jm 16 6,jv 17 (.fld (.t 1) 0 0),jl 18 17,jv 19 (.bin .leq (.t 16) (.t 18))]) zst) zte)
def zsr:AC:=(.block 2 (.loop zi8))
def zlV:AC:=(rr [jm 14 5,jv 15 (.bin .add (.t 14) (jn 1)),jm 5 15])
def zoA:AC:=(.seq (.block 1 (.seq (rr [jv 6 (.mov (jn 1))]) zsr)) zlV)
def NM:AC:=(.seq (.seq (rr [jm 10 5,jv 11 (.fld (.t 1) 0 0),jl 12 11,jv 13 (.bin .lss (.t 10) (.t 12))]) zt8) zoA)
def zaC:AC:=(.seq (rr [jm 37 4,jm 2 37,jv 3 (.mov kt)]) .ret)
def zm0:AC:=(.cond (.t 9) (.seq (rr [jv 2 (.mov (jn 0)),jv 3 (.mov kf)]) .ret) .skip)
def zn6:AC:=(.block 0 (.loop NM))
def zl9:AC:=(.seq (.seq (rr [jv 5 (.mov (jn 0))]) zn6) zaC)
def zoj:AC:=(.seq (rr [jv 4 (.mov (jn 0))]) zl9)
def zot:AC:=(.seq (.seq (rr [jv 7 (.load (.ag [.s,.p]) (.t 1)),jx 8 (.call (jf 33) [.t 7]),jv 9 (.un .not (.t 8))]) zm0) zoj)
def A17:AC:=(.seq (.reg [.clr [1]] [jx 1 (.box (.t 0)),jv 2 (.mov (jn 0)),jv 3 (.mov kf)] []) zot)
def zwa:List An:=[⟨0,[.clr [1]],[],[],[]⟩]
theorem c17:cq Try.prog Try.f17 zwa=some A17:=by kernel_rfl
structure H17 (D:Den) (σ:Sig) (F:Nat):Prop where
 c33:C33 (D 33) F
 g33:σ 33=some (0,false)
 c44:C44 (D 44) F
 g44:σ 44=some (0,false)
 c43:C43 (D 43) F
 g43:σ 43=some (0,false)
abbrev R17 (r:(Int×Bool)):(Nat→V)→Prop:=RR Try.prog [.tmp 2,.tmp 3] 0 false (.tup [Enc.enc (r.1:Int),Enc.enc (r.2:Bool)])
section
variable {r:(Int×Bool)}
def yZ (F:Nat) (x1:GR) (x15:Int) (c1:Int→Int→Option (Int×Bool)):Nat→Int→Int→Option (Int×Bool)
 | 0,_,_=>none
 | k + 1,x30,r31=>
   bif decide (r31≤x1.1) then
    (ZY F x1 x15 r31).bind fun r35=>
    (zdm .i64 (w64 ((w64 ((w64 ((r35.length:Int) - 1)) + (w64 (2 * r31)))) - 1)) (w64 (2 * r31))).bind fun q36=>
    (ua F x30 q36).bind fun r37=>
    (yZ F x1 x15 c1 k) r37 (w64 (r31 + 1))
   else
    c1 x30 (w64 (x15 + 1))
theorem zgQ (H:H17 D σ F) (x1:GR) (x15:Int) (c1:Int→Int→Option (Int×Bool)) (Hc1:∀ (x14:Int) (x15:Int) (s:Nat→V),zk [(1,bG 1 x1),(2,ji 0),(3,jb false),(4,ji x14),(5,ji x15)] s→c1 x14 x15=some r→Run D σ (R17 r) (.run NM [.lp NM,.bk 0,.sq zaC]) s):∀ (k:Nat) (x30:Int) (r31:Int) (s:Nat→V),zk [(1,bG 1 x1),(2,ji 0),(3,jb false),(4,ji x30),(5,ji x15),(6,ji r31)] s→yZ F x1 x15 c1 k x30 r31=some r→Run D σ (R17 r) (.run zi8 [.lp zi8,.bk 2,.bk 1,.sq zlV,.lp NM,.bk 0,.sq zaC]) s:=by
 intro k
 induction k with
 | zero=>intro x30 r31 s _ h;exact nm h
 | succ k ih=>
   intro x30 r31 s hs h
   rw [yZ] at h
   obtain ⟨h1,h2,h3,h4,h5,h6⟩:=hs
   refine .seq (.seq (rg (gm h6 fun h16=>g1 1 (.ref (.bx 1) 0 [0] (ji x1.1)) h1 fun h17=>g1 17 (ji x1.1) h17 fun h18=>g2 16 18 (jb (decide (r31≤x1.1))) h16 h18 fun h19=>gq (.nsq (zg h19 h (fun h=>?_) (fun h=>?_))))))
   · refine .skip (.nsq (.seq (.block (rg (gm h4 fun h22=>g1 1 (gV x1) h1 fun h23=>gm h5 fun h24=>gm h6 fun h25=>?_)))))
     obtain ⟨r35,Er35,h⟩:=bind_some h
     refine zy (m:=0) (al:=false) (r:=eL r35) [Enc.enc (x1:GR),Enc.enc (x15:Int),Enc.enc (r31:Int)] (zc (v:=gV x1) h23 rfl (Enc.erase_enc (x1:GR)) (zc (v:=ji x15) h24 rfl rfl (zc (v:=ji r31) h25 rfl rfl zp))) (H.c44 _ _ _ _ Er35) H.g44 rfl rfl rfl rfl (gl r35 rfl fun h27=>g1 27 (ji (w64 ((r35.length:Int) - 1))) h27 fun h28=>gm h6 fun h29=>g1 29 (ji (w64 (2 * r31))) h29 fun h30=>g2 28 30 (ji (w64 ((w64 ((r35.length:Int) - 1)) + (w64 (2 * r31))))) h28 h30 fun h31=>g1 31 (ji (w64 ((w64 ((w64 ((r35.length:Int) - 1)) + (w64 (2 * r31)))) - 1))) h31 fun h32=>gm h6 fun h33=>g1 33 (ji (w64 (2 * r31))) h33 fun h34=>?_)
     obtain ⟨q36,Eq36,h⟩:=bind_some h
     refine gv (ji q36) (ziE h32 h34 Eq36) fun h35=>?_
     obtain ⟨r37,Er37,h⟩:=bind_some h
     refine zy (m:=0) (al:=false) (r:=Enc.enc (r37:Int)) [Enc.enc (x30:Int),Enc.enc (q36:Int)] (zc (v:=ji x30) h22 rfl rfl (zc (v:=ji q36) h35 rfl rfl zp)) (H.c43 _ _ _ Er37) H.g43 rfl rfl rfl rfl (gm (rf (ji r37)) fun h4=>gz [(1,_),(2,_),(3,_),(4,_),(5,_),(6,_)] ⟨h1,h2,h3,h4,h5,h6⟩ ?_)
     rintro s ⟨h1,h2,h3,h4,h5,h6⟩
     refine .nbk (.nsq (rg (gm h6 fun h20=>g1 20 (ji (w64 (r31 + 1))) h20 fun h21=>gm h21 fun h6=>gq (.nlp ?_))))
     exact ih r37 (w64 (r31 + 1)) _ ⟨h1,h2,h3,h4,h5,h6⟩ h
   refine .exit (.esq (.elp (.ebk (.nbk (.nsq (rg (gm h5 fun h14=>g1 14 (ji (w64 (x15 + 1))) h14 fun h15=>gm h15 fun h5=>gq (.nlp ?_))))))))
   exact Hc1 x30 (w64 (x15 + 1)) _ ⟨h1,h2,h3,h4,h5⟩ h
def yY (F:Nat) (x1:GR) :Nat→Int→Int→Option (Int×Bool)
 | 0,_,_=>none
 | k + 1,x14,x15=>
   bif decide (x15 < x1.1) then
    yZ F x1 x15 (yY F x1 k) F x14 1
   else
    some (x14,true)
theorem ziW (H:H17 D σ F) (x1:GR) :∀ (k:Nat) (x14:Int) (x15:Int) (s:Nat→V),zk [(1,bG 1 x1),(2,ji 0),(3,jb false),(4,ji x14),(5,ji x15)] s→yY F x1 k x14 x15=some r→Run D σ (R17 r) (.run NM [.lp NM,.bk 0,.sq zaC]) s:=by
 intro k
 induction k with
 | zero=>intro x14 x15 s _ h;exact nm h
 | succ k ih=>
   intro x14 x15 s hs h
   rw [yY] at h
   obtain ⟨h1,h2,h3,h4,h5⟩:=hs
   refine .seq (.seq (rg (gm h5 fun h10=>g1 1 (.ref (.bx 1) 0 [0] (ji x1.1)) h1 fun h11=>g1 11 (ji x1.1) h11 fun h12=>g2 10 12 (jb (decide (x15 < x1.1))) h10 h12 fun h13=>gq (.nsq (zg h13 h (fun h=>?_) (fun h=>?_))))))
   · refine .skip (.nsq (.seq (.block (.seq (rg (g0 (ji 1) fun h6=>gq (.nsq (.block (.loop ?_)))))))))
     exact zgQ H x1 x15 (yY F x1 k) ih F x14 1 _ ⟨h1,h2,h3,h4,h5,h6⟩ h
   refine .exit (.esq (.elp (.ebk (.nsq (.seq (rg (gm h4 fun h37=>gm h37 fun h2=>g0 (jb true) fun h3=>gq (.nsq (.ret ?_)))))))))
   obtain rfl:=oi h
   exact rrB (zf h2) (zf h3) rfl
def wy (F:Nat) (x1:GR):Option (Int×Bool):=
 (uK F x1).bind fun r2=>
 bif (!r2) then
  some (0,false)
 else
  yY F x1 F 0 0
theorem t17 (H:H17 D σ F) (x1:GR) (s:Nat→V) (hs:zk [(0,gV x1)] s) (h:wy F x1=some r):Run D σ (R17 r) (.run A17 []) s:=by
 unfold wy at h
 have h0:=hs
 refine .seq (zo (zT ?_))
 refine ez [(0,_),(1,_)] ⟨za h0 rfl mIE,zb rfl⟩ ?_
 rintro s ⟨h0,h1⟩
 refine xo (gV x1) (zx h0 rfl) h1 rfl (g0 (ji 0) fun h2=>g0 (jb false) fun h3=>gq (.nsq (.seq (.seq (rg (g1 1 (gV x1) (rf (bG 1 x1)) fun h7=>?_))))))
 obtain ⟨r2,Er2,h⟩:=bind_some h
 refine zy (m:=0) (al:=false) (r:=Enc.enc (r2:Bool)) [Enc.enc (x1:GR)] (zc (v:=gV x1) h7 rfl (Enc.erase_enc (x1:GR)) zp) (H.c33 _ _ Er2) H.g33 rfl rfl rfl rfl (g1 8 (jb (!r2)) (rf (jb r2)) fun h9=>gq (.nsq (zg h9 h (fun h=>?_) (fun h=>?_))))
 · refine .seq (rg (g0 (ji 0) fun h2=>g0 (jb false) fun h3=>gq (.nsq (.ret ?_))))
   obtain rfl:=oi h
   exact rrB (zf h2) (zf h3) rfl
 refine .skip (.nsq (.seq (rg (g0 (ji 0) fun h4=>gq (.nsq (.seq (.seq (rg (g0 (ji 0) fun h5=>gq (.nsq (.block (.loop ?_))))))))))))
 exact ziW H x1 F 0 0 _ ⟨rfl,h2,h3,h4,h5⟩ h
end
def e17 (F:Nat):Ent:=ent 17 (fun (x:(GR×Unit))=>wy F x.1) (fun (r:(Int×Bool))=>(.tup [Enc.enc (r.1:Int),Enc.enc (r.2:Bool)])) 0 false []
abbrev C17 (D:List V→Option V) (F:Nat):Prop:=∀ (x0:GR) r,wy F x0=some r→D [Enc.enc x0]=some (.tup [Enc.enc (r.1:Int),Enc.enc (r.2:Bool)])
theorem p17 {F:Nat}:C17 (e17 F).den F:=fun x0 _ h=>zK (x0,()) h
theorem o17 (hF:zr Try.prog D σ) (H:H17 D σ F):(e17 F).Ok Try.prog:=okZ (f:=17) Try.func17 fun ⟨x0,_⟩ y hy=>cR hF Try.func17 c17 (t17 H x0 _ rfl hy)
def zso:AC:=(.cond (.t 14) .skip (.exit 0))
def zsC:AC:=(.cond (.t 25) (.seq (rr [jv 4 (.mov kf)]) .ret) .skip)
def zpc:AC:=(rr [jm 15 5,jv 16 (.bin .add (.t 15) (jn 1)),jm 5 16])
def zs2:AC:=(.seq (.block 1 (.seq (rr [jm 17 0,jm 18 5,jv 19 (.idx (.t 17) (.t 18) 1),jl 20 19,jm 21 1,jm 22 5,jv 23 (.idx (.t 21) (.t 22) 1),jl 24 23,jv 25 (.bin .neq (.t 20) (.t 24))]) zsC)) zpc)
def zjx:AC:=(.seq (.seq (rr [jm 11 5,jm 12 0,jk 13 12,jv 14 (.bin .lss (.t 11) (.t 13))]) zso) zs2)
def zlF:AC:=(.seq (rr [jv 4 (.mov kt)]) .ret)
def zub:AC:=(.cond (.t 10) (.seq (rr [jv 4 (.mov kf)]) .ret) .skip)
def zmA:AC:=(.block 0 (.loop zjx))
def zpB:AC:=(.seq (.seq (rr [jv 5 (.mov (jn 0))]) zmA) zlF)
def zrT:AC:=(.seq (.seq (rr [jm 6 0,jk 7 6,jm 8 1,jk 9 8,jv 10 (.bin .neq (.t 7) (.t 9))]) zub) zpB)
def A18:AC:=(.seq (rr [jv 4 (.mov kf)]) zrT)
def zuK:List An:=[]
theorem c18:cq Try.prog Try.f18 zuK=some A18:=by kernel_rfl
structure H18 (D:Den) (σ:Sig) (F:Nat):Prop where
 mk ::
abbrev R18 (r:Bool):(Nat→V)→Prop:=RR Try.prog [.tmp 4] 0 false (Enc.enc (r:Bool))
section
variable {r:Bool}
def ZS (F:Nat) (x1:LI) (x2:LI) :Nat→Int→Option Bool
 | 0,_=>none
 | k + 1,x5=>
   bif decide (x5 < (x1.length:Int)) then
    (idx x1 x5).bind fun v8=>
    (idx x2 x5).bind fun v9=>
    bif (v8 != v9) then
     some false
    else
     (ZS F x1 x2 k) (w64 (x5 + 1))
   else
    some true
theorem zh1 (H:H18 D σ F) (x1:LI) (x2:LI) :∀ (k:Nat) (x5:Int) (s:Nat→V),zk [(0,eL x1),(1,eL x2),(4,jb false),(5,ji x5)] s→ZS F x1 x2 k x5=some r→Run D σ (R18 r) (.run zjx [.lp zjx,.bk 0,.sq zlF]) s:=by
 intro k
 induction k with
 | zero=>intro x5 s _ h;exact nm h
 | succ k ih=>
   intro x5 s hs h
   rw [ZS] at h
   obtain ⟨h0,h1,h4,h5⟩:=hs
   refine .seq (.seq (rg (gm h5 fun h11=>gm h0 fun h12=>gl x1 h12 fun h13=>g2 11 13 (jb (decide (x5 < (x1.length:Int)))) h11 h13 fun h14=>gq (.nsq (zg h14 h (fun h=>?_) (fun h=>?_))))))
   · refine .skip (.nsq (.seq (.block (.seq (rg (gm h0 fun h17=>gm h5 fun h18=>?_))))))
     obtain ⟨v8,Ev8,h⟩:=bind_some h
     refine gv (.ref .sh 0 [] (ji v8)) (yq (t:=.sh) (lo:=0) (xs:=x1) h17 h18 Ev8 rfl rfl) fun h19=>g1 19 (ji v8) h19 fun h20=>gm h1 fun h21=>gm h5 fun h22=>?_
     obtain ⟨v9,Ev9,h⟩:=bind_some h
     refine gv (.ref .sh 0 [] (ji v9)) (yq (t:=.sh) (lo:=0) (xs:=x2) h21 h22 Ev9 rfl rfl) fun h23=>g1 23 (ji v9) h23 fun h24=>g2 20 24 (jb (v8 != v9)) h20 h24 fun h25=>gq (.nsq (zg h25 h (fun h=>?_) (fun h=>?_)))
     · refine .seq (rg (g0 (jb false) fun h4=>gq (.nsq (.ret ?_))))
       obtain rfl:=oi h
       exact rrA (zf h4) rfl
     refine .skip (.nbk (.nsq (rg (gm h5 fun h15=>g1 15 (ji (w64 (x5 + 1))) h15 fun h16=>gm h16 fun h5=>gq (.nlp ?_)))))
     exact ih (w64 (x5 + 1)) _ ⟨h0,h1,h4,h5⟩ h
   refine .exit (.esq (.elp (.ebk (.nsq (.seq (rg (g0 (jb true) fun h4=>gq (.nsq (.ret ?_)))))))))
   obtain rfl:=oi h
   exact rrA (zf h4) rfl
def Xn (F:Nat) (x1:LI) (x2:LI):Option Bool:=
 bif ((x1.length:Int) != (x2.length:Int)) then
  some false
 else
  ZS F x1 x2 F 0
theorem t18 (H:H18 D σ F) (x1:LI) (x2:LI) (s:Nat→V) (hs:zk [(0,eL x1),(1,eL x2)] s) (h:Xn F x1 x2=some r):Run D σ (R18 r) (.run A18 []) s:=by
 unfold Xn at h
 obtain ⟨h0,h1⟩:=hs
 refine .seq (rg (g0 (jb false) fun h4=>gq (.nsq (.seq (.seq (rg (gm h0 fun h6=>gl x1 h6 fun h7=>gm h1 fun h8=>gl x2 h8 fun h9=>g2 7 9 (jb ((x1.length:Int) != (x2.length:Int))) h7 h9 fun h10=>gq (.nsq (zg h10 h (fun h=>?_) (fun h=>?_))))))))))
 · refine .seq (rg (g0 (jb false) fun h4=>gq (.nsq (.ret ?_))))
   obtain rfl:=oi h
   exact rrA (zf h4) rfl
 refine .skip (.nsq (.seq (.seq (rg (g0 (ji 0) fun h5=>gq (.nsq (.block (.loop ?_))))))))
 exact zh1 H x1 x2 F 0 _ ⟨h0,h1,h4,h5⟩ h
end
def e18 (F:Nat):Ent:=ent 18 (fun (x:(LI×LI×Unit))=>Xn F x.1 x.2.1) (fun (r:Bool)=>(Enc.enc (r:Bool))) 0 false []
abbrev C18 (D:List V→Option V) (F:Nat):Prop:=∀ (x0:LI) (x1:LI) r,Xn F x0 x1=some r→D [Enc.enc x0,Enc.enc x1]=some (Enc.enc (r:Bool))
theorem p18 {F:Nat}:C18 (e18 F).den F:=fun x0 x1 _ h=>zK (x0,x1,()) h
theorem o18 (hF:zr Try.prog D σ) (H:H18 D σ F):(e18 F).Ok Try.prog:=okZ (f:=18) Try.func18 fun ⟨x0,x1,_⟩ y hy=>cR hF Try.func18 c18 (t18 H x0 x1 _ ⟨rfl,rfl⟩ hy)
def zs1:AC:=(.cond (.t 22) (rr [jm 23 5,jm 24 7,jv 25 (.bin .shl (jn 1) (.t 24)),jv 26 (.bin .or (.t 23) (.t 25)),jm 5 26]) .skip)
def zrt:AC:=(.seq (rr [jv 15 (.fld (.t 2) 0 0),jv 16 (.load .p (.t 15)),jm 17 7,jv 18 (.idx (.t 16) (.t 17) 1),jl 19 18,jm 20 1,jv 21 (.bin .andNot (.t 19) (.t 20)),jv 22 (.bin .neq (.t 21) (jn 0))]) zs1)
def zls:AC:=(rr [jv 27 (.bin .add (.t 11) (jn 1)),jm 11 27])
def zum:AC:=(.seq (.block 1 (.seq (rr [jv 13 (.idx (.t 9) (.t 11) 1),jl 14 13,jm 7 14]) zrt)) zls)
def ztc:AC:=(.seq (.cond (.t 12) .skip (.exit 0)) zum)
def N3:AC:=(.seq (rr [jv 12 (.bin .lss (.t 11) (.t 10))]) ztc)
def zd9:AC:=(.seq (rr [jm 28 5,jm 4 28]) .ret)
def zmy:AC:=(.block 0 (.loop N3))
def zr1:AC:=(.seq (.seq (rr [jm 8 1,jx 9 (.call (jf 67) [.t 8]),jk 10 9,jv 11 (.mov (jn 0))]) zmy) zd9)
def zqh:AC:=(.seq (rr [jv 5 (.mov (jn 0))]) zr1)
def A82:AC:=(.seq (.reg [.clr [2]] [jx 2 (.box (.t 0)),jv 4 (.mov (jn 0))] []) zqh)
def zvZ:List An:=[⟨0,[.clr [2]],[],[],[]⟩]
theorem c82:cq Try.prog Try.f82 zvZ=some A82:=by kernel_rfl
structure H82 (D:Den) (σ:Sig) (F:Nat):Prop where
 c67:C67 (D 67) F
 g67:σ 67=some (0,false)
abbrev R82 (r:Int):(Nat→V)→Prop:=RR Try.prog [.tmp 4] 0 false (Enc.enc (r:Int))
section
variable {r:Int}
def Zb (F:Nat) (x2:Int) (x1:(S1 LI)) (r3:LI) (x10:Int) (c1:Int→Int→Option Int) (x19:Int):Option Int:=
 c1 x19 (w64 (x10 + 1))
theorem zb0 (H:H82 D σ F) (x2:Int) (x1:(S1 LI)) (r3:LI) (x10:Int) (c1:Int→Int→Option Int) (Hc1:∀ (x9:Int) (x10:Int) (s:Nat→V),zk [(1,ji x2),(2,.ref (.bx 2) 0 [] (.agg [eL x1.a])),(4,ji 0),(5,ji x9),(9,eL r3),(10,ji (r3.length:Int)),(11,ji x10)] s→c1 x9 x10=some r→Run D σ (R82 r) (.run N3 [.lp N3,.bk 0,.sq zd9]) s) (x19:Int) (s:Nat→V) (hs:zk [(1,ji x2),(2,.ref (.bx 2) 0 [] (.agg [eL x1.a])),(4,ji 0),(5,ji x19),(9,eL r3),(10,ji (r3.length:Int)),(11,ji x10)] s) (h:Zb F x2 x1 r3 x10 c1 x19=some r):Run D σ (R82 r) (.nrm [.bk 1,.sq zls,.lp N3,.bk 0,.sq zd9]) s:=by
 unfold Zb at h
 obtain ⟨h1,h2,h4,h5,h9,h10,h11⟩:=hs
 refine .nbk (.nsq (rg (g1 11 (ji (w64 (x10 + 1))) h11 fun h27=>gm h27 fun h11=>gq (.nlp ?_))))
 exact Hc1 x19 (w64 (x10 + 1)) _ ⟨h1,h2,h4,h5,h9,h10,h11⟩ h
def xH (F:Nat) (x2:Int) (x1:(S1 LI)) (r3:LI) :Nat→Int→Int→Option Int
 | 0,_,_=>none
 | k + 1,x9,x10=>
   bif decide (x10 < (r3.length:Int)) then
    (idx r3 x10).bind fun v16=>
    (idx x1.a v16).bind fun v17=>
    bif ((xp .i64 v17 x2) != 0) then
     (uB .i64 1 v16).bind fun q20=>
     Zb F x2 x1 r3 x10 (xH F x2 x1 r3 k) (ior .i64 x9 q20)
    else
     Zb F x2 x1 r3 x10 (xH F x2 x1 r3 k) x9
   else
    some x9
theorem zg9 (H:H82 D σ F) (x2:Int) (x1:(S1 LI)) (r3:LI) :∀ (k:Nat) (x9:Int) (x10:Int) (s:Nat→V),zk [(1,ji x2),(2,.ref (.bx 2) 0 [] (.agg [eL x1.a])),(4,ji 0),(5,ji x9),(9,eL r3),(10,ji (r3.length:Int)),(11,ji x10)] s→xH F x2 x1 r3 k x9 x10=some r→Run D σ (R82 r) (.run N3 [.lp N3,.bk 0,.sq zd9]) s:=by
 intro k
 induction k with
 | zero=>intro x9 x10 s _ h;exact nm h
 | succ k ih=>
   intro x9 x10 s hs h
   rw [xH] at h
   obtain ⟨h1,h2,h4,h5,h9,h10,h11⟩:=hs
   refine .seq (rg (g2 11 10 (jb (decide (x10 < (r3.length:Int)))) h11 h10 fun h12=>gq (.nsq (.seq (zg h12 h (fun h=>?_) (fun h=>?_))))))
   · refine .skip (.nsq (.seq (.block (.seq (rg ?_)))))
     obtain ⟨v16,Ev16,h⟩:=bind_some h
     refine gv (.ref .sh 0 [] (ji v16)) (yq (t:=.sh) (lo:=0) (xs:=r3) h9 h11 Ev16 rfl rfl) fun h13=>g1 13 (ji v16) h13 fun h14=>gm h14 fun h7=>gq (.nsq (.seq (rg (g1 2 (.ref (.bx 2) 0 [0] (eL x1.a)) h2 fun h15=>g1 15 (eL x1.a) h15 fun h16=>gm h7 fun h17=>?_))))
     obtain ⟨v17,Ev17,h⟩:=bind_some h
     refine gv (.ref .sh 0 [] (ji v17)) (yq (t:=.sh) (lo:=0) (xs:=x1.a) h16 h17 Ev17 rfl rfl) fun h18=>g1 18 (ji v17) h18 fun h19=>gm h1 fun h20=>g2 19 20 (ji (xp .i64 v17 x2)) h19 h20 fun h21=>g1 21 (jb ((xp .i64 v17 x2) != 0)) h21 fun h22=>gq (.nsq (zg h22 h (fun h=>?_) (fun h=>?_)))
     · refine rg (gm h5 fun h23=>gm h7 fun h24=>?_)
       obtain ⟨q20,Eq20,h⟩:=bind_some h
       refine gv (ji q20) (vW rfl h24 Eq20) fun h25=>g2 23 25 (ji (ior .i64 x9 q20)) h23 h25 fun h26=>gm h26 fun h5=>gq ?_
       exact zb0 H x2 x1 r3 x10 (xH F x2 x1 r3 k) ih (ior .i64 x9 q20) _ ⟨h1,h2,h4,h5,h9,h10,h11⟩ h
     refine .skip ?_
     exact zb0 H x2 x1 r3 x10 (xH F x2 x1 r3 k) ih x9 _ ⟨h1,h2,h4,h5,h9,h10,h11⟩ h
   refine .exit (.esq (.elp (.ebk (.nsq (.seq (rg (gm h5 fun h28=>gm h28 fun h4=>gq (.nsq (.ret ?_)))))))))
   obtain rfl:=oi h
   exact rrA (zf h4) rfl
def Zi (F:Nat) (x1:(S1 LI)) (x2:Int):Option Int:=
 (uU F x2).bind fun r3=>
 xH F x2 x1 r3 F 0 0
theorem t82 (H:H82 D σ F) (x1:(S1 LI)) (x2:Int) (s:Nat→V) (hs:zk [(0,.agg [eL x1.a]),(1,ji x2)] s) (h:Zi F x1 x2=some r):Run D σ (R82 r) (.run A82 []) s:=by
 unfold Zi at h
 obtain ⟨h0,h1⟩:=hs
 refine .seq (zo (zT ?_))
 refine ez [(0,_),(1,_),(2,_)] ⟨za h0 rfl (zF (ze me zm)),za h1 rfl mi,zb rfl⟩ ?_
 rintro s ⟨h0,h1,h2⟩
 refine xo (.agg [eL x1.a]) (zx h0 rfl) h2 rfl (g0 (ji 0) fun h4=>gq (.nsq (.seq (rg (g0 (ji 0) fun h5=>gq (.nsq (.seq (.seq (rg (gm h1 fun h8=>?_))))))))))
 obtain ⟨r3,Er3,h⟩:=bind_some h
 refine zy (m:=0) (al:=false) (r:=eL r3) [Enc.enc (x2:Int)] (zc (v:=ji x2) h8 rfl rfl zp) (H.c67 _ _ Er3) H.g67 rfl rfl rfl rfl (gl r3 rfl fun h10=>g0 (ji 0) fun h11=>gq (.nsq (.block (.loop ?_))))
 exact zg9 H x2 x1 r3 F 0 0 _ ⟨h1,rfl,h4,h5,rfl,h10,h11⟩ h
end
def e82 (F:Nat):Ent:=ent 82 (fun (x:((S1 LI)×Int×Unit))=>Zi F x.1 x.2.1) (fun (r:Int)=>(Enc.enc (r:Int))) 0 false []
abbrev C82 (D:List V→Option V) (F:Nat):Prop:=∀ (x0:(S1 LI)) (x1:Int) r,Zi F x0 x1=some r→D [Enc.enc x0,Enc.enc x1]=some (Enc.enc (r:Int))
theorem p82 {F:Nat}:C82 (e82 F).den F:=fun x0 x1 _ h=>zK (x0,x1,()) h
theorem o82 (hF:zr Try.prog D σ) (H:H82 D σ F):(e82 F).Ok Try.prog:=okZ (f:=82) Try.func82 fun ⟨x0,x1,_⟩ y hy=>cR hF Try.func82 c82 (t82 H x0 x1 _ ⟨rfl,rfl⟩ hy)
def zsM:AC:=(.seq (rr [jv 7 (.load (.ag [.p]) (.t 3)),jm 8 1,jm 9 2,jv 10 (.bin .shl (jn 1) (.t 9)),jv 11 (.bin .or (.t 8) (.t 10)),jx 12 (.call (jf 82) [.t 7,.t 11]),jv 13 (.conv .u64 (.t 12)),jx 14 (.call (jf 41) [.t 13]),jm 6 14]) .ret)
def A72:AC:=(.seq (.reg [.clr [3]] [jx 3 (.box (.t 0)),jv 6 (.mov (jn 0))] []) zsM)
def zwm:List An:=[⟨0,[.clr [3]],[],[],[]⟩]
theorem c72:cq Try.prog Try.f72 zwm=some A72:=by kernel_rfl
structure H72 (D:Den) (σ:Sig) (F:Nat):Prop where
 c82:C82 (D 82) F
 g82:σ 82=some (0,false)
 c41:C41 (D 41) F
 g41:σ 41=some (0,false)
abbrev R72 (r:Int):(Nat→V)→Prop:=RR Try.prog [.tmp 6] 0 false (Enc.enc (r:Int))
section
variable {r:Int}
def xe (F:Nat) (x1:(S1 LI)) (x2:Int) (x3:Int):Option Int:=
 (uB .i64 1 x3).bind fun q4=>
 (Zi F x1 (ior .i64 x2 q4)).bind fun r5=>
 (we F (Kd.mk (IntKind.u64.wrap r5):Kd .u64)).bind fun r6=>
 some r6
theorem t72 (H:H72 D σ F) (x1:(S1 LI)) (x2:Int) (x3:Int) (s:Nat→V) (hs:zk [(0,.agg [eL x1.a]),(1,ji x2),(2,ji x3)] s) (h:xe F x1 x2 x3=some r):Run D σ (R72 r) (.run A72 []) s:=by
 unfold xe at h
 obtain ⟨h0,h1,h2⟩:=hs
 refine .seq (zo (zT ?_))
 refine ez [(0,_),(1,_),(2,_),(3,_)] ⟨za h0 rfl (zF (ze me zm)),za h1 rfl mi,za h2 rfl mi,zb rfl⟩ ?_
 rintro s ⟨h0,h1,h2,h3⟩
 refine xo (.agg [eL x1.a]) (zx h0 rfl) h3 rfl (g0 (ji 0) fun h6=>gq (.nsq (.seq (rg (g1 3 (.agg [eL x1.a]) (rf (.ref (.bx 3) 0 [] (.agg [eL x1.a]))) fun h7=>gm h1 fun h8=>gm h2 fun h9=>?_)))))
 obtain ⟨q4,Eq4,h⟩:=bind_some h
 refine gv (ji q4) (vW rfl h9 Eq4) fun h10=>g2 8 10 (ji (ior .i64 x2 q4)) h8 h10 fun h11=>?_
 obtain ⟨r5,Er5,h⟩:=bind_some h
 refine zy (m:=0) (al:=false) (r:=Enc.enc (r5:Int)) [Enc.enc (x1:(S1 LI)),Enc.enc (ior .i64 x2 q4:Int)] (zc (v:=.agg [eL x1.a]) h7 rfl (Enc.erase_enc (x1:(S1 LI))) (zc (v:=ji (ior .i64 x2 q4)) h11 rfl rfl zp)) (H.c82 _ _ _ Er5) H.g82 rfl rfl rfl rfl (g1 12 (.int .u64 (IntKind.u64.wrap r5)) (rf (ji r5)) fun h13=>?_)
 obtain ⟨r6,Er6,h⟩:=bind_some h
 refine zy (m:=0) (al:=false) (r:=Enc.enc (r6:Int)) [Enc.enc ((Kd.mk (IntKind.u64.wrap r5):Kd .u64):(Kd .u64))] (zc (v:=.int .u64 (IntKind.u64.wrap r5)) h13 rfl rfl zp) (H.c41 _ _ Er6) H.g41 rfl rfl rfl rfl (gm (rf (ji r6)) fun h6=>gq (.nsq (.ret ?_)))
 obtain rfl:=oi h
 exact rrA (zf h6) rfl
end
def e72 (F:Nat):Ent:=ent 72 (fun (x:((S1 LI)×Int×Int×Unit))=>xe F x.1 x.2.1 x.2.2.1) (fun (r:Int)=>(Enc.enc (r:Int))) 0 false []
abbrev C72 (D:List V→Option V) (F:Nat):Prop:=∀ (x0:(S1 LI)) (x1:Int) (x2:Int) r,xe F x0 x1 x2=some r→D [Enc.enc x0,Enc.enc x1,Enc.enc x2]=some (Enc.enc (r:Int))
theorem p72 {F:Nat}:C72 (e72 F).den F:=fun x0 x1 x2 _ h=>zK (x0,x1,x2,()) h
theorem o72 (hF:zr Try.prog D σ) (H:H72 D σ F):(e72 F).Ok Try.prog:=okZ (f:=72) Try.func72 fun ⟨x0,x1,x2,_⟩ y hy=>cR hF Try.func72 c72 (t72 H x0 x1 x2 _ ⟨rfl,rfl,rfl⟩ hy)
def zkj:AC:=(.cond (.t 19) .skip (.exit 0))
def zcs:AC:=(.cond (.t 58) (rr [jm 59 7,jm 60 8,jm 61 11,jv 62 (.idx (.t 59) (.t 60) 1),jz (.store .s (.t 62) (.t 61))]) .skip)
def zjn:AC:=(.seq (rr [jm 49 9,jv 50 (.bin .eql (.t 49) (jn 0)),jm 51 50,jg 52 51 false (.mov (.t 11)),jg 53 51 false (.mov (.t 7)),jg 54 51 false (.mov (.t 8)),jg 55 51 false (.idx (.t 53) (.t 54) 1),jg 56 51 false (.load .s (.t 55)),jg 57 51 false (.bin .lss (.t 52) (.t 56)),jv 58 (.pick (.t 51) kt (.t 57))]) zcs)
def zkO:AC:=(.seq (rr [jm 37 2,jm 38 8,jm 39 10,jx 40 (.call (.t 37) [.t 38,.t 39]),jm 41 7,jm 42 8,jm 43 10,jv 44 (.bin .shl (jn 1) (.t 43)),jv 45 (.bin .or (.t 42) (.t 44)),jv 46 (.idx (.t 41) (.t 45) 1),jl 47 46,jv 48 (.mx [.t 40,.t 47]),jm 11 48]) zjn)
def MU:AC:=(rr [jv 63 (.bin .add (.t 32) (jn 1)),jm 32 63])
def zks:AC:=(.seq (.block 3 (.seq (rr [jm 34 32,jv 35 (.idx (.t 30) (.t 32) 1),jl 36 35,jm 9 34,jm 10 36]) zkO)) MU)
def zkt:AC:=(.seq (.cond (.t 33) .skip (.exit 2)) zks)
def Xk:AC:=(.seq (rr [jv 33 (.bin .lss (.t 32) (.t 31))]) zkt)
def zkW:AC:=(.block 2 (.loop Xk))
def zkh:AC:=(.seq (rr [jv 26 (.load (.ag [.p]) (.t 3)),jx 27 (.call (jf 66) [.t 26]),jm 28 8,jv 29 (.bin .andNot (.t 27) (.t 28)),jx 30 (.call (jf 67) [.t 29]),jk 31 30,jv 32 (.mov (jn 0))]) zkW)
def Ww:AC:=(rr [jm 20 8,jv 21 (.bin .sub (.t 20) (jn 1)),jm 8 21])
def zkz:AC:=(.seq (.block 1 (.seq (rr [jm 22 7,jm 23 8,jm 24 1,jv 25 (.idx (.t 22) (.t 23) 1),jz (.store .s (.t 25) (.t 24))]) zkh)) Ww)
def uT:AC:=(.seq (.seq (rr [jm 18 8,jv 19 (.bin .geq (.t 18) (jn 0))]) zkj) zkz)
def ZI:AC:=(.seq (.reg [] [jm 64 7,jm 6 64] [.home 7 6]) .ret)
def zhL:AC:=(.block 0 (.loop uT))
def zh9:AC:=(.seq (.seq (rr [jv 16 (.load (.ag [.p]) (.t 3)),jx 17 (.call (jf 66) [.t 16]),jm 8 17]) zhL) ZI)
def zih:AC:=(.seq (.reg [.clr [15]] [jv 12 (.load (.ag [.p]) (.t 3)),jx 13 (.call (jf 66) [.t 12]),jv 14 (.bin .add (.t 13) (jn 1)),jx 15 (.mk (.t 14) i0 i0),jm 7 15] [.home 15 7]) zh9)
def zlA:AC:=(.seq (.reg [.clr [3]] [jx 3 (.box (.t 0)),jv 6 (.mov (.k (.sl .nl .s 0 [])))] []) zih)
def zom:List An:=[⟨0,[.clr [3]],[],[],[]⟩,⟨1,[.clr [15]],[],[],[.home 15 7]⟩,⟨13,[],[],[],[.home 7 6]⟩]
theorem c35s2:cq Try.prog Try.f35 zom=some zlA:=by kernel_rfl
structure Qh (D:Den) (σ:Sig) (F:Nat):Prop where
 c66:C66 (D 66) F
 g66:σ 66=some (0,false)
 c67:C67 (D 67) F
 g67:σ 67=some (0,false)
 c72:C72 (D 72) F
 g72:σ 72=some (0,false)
abbrev JA (r:LI):(Nat→V)→Prop:=RR Try.prog [.tmp 6] 0 false (eL r)
section
variable {r:LI}
def ym (F:Nat) (x2:Int) (x3:(Cl 72 ((S1 LI)×Unit) Unit)) (x1:(S1 LI)) (x43:Int) (r81:LI) (x93:Int) (c1:LI→Int→Option LI) (c4:LI→Int→Option LI) (x111:LI):Option LI:=
 c4 x111 (w64 (x93 + 1))
theorem MG (H:Qh D σ F) (x2:Int) (x3:(Cl 72 ((S1 LI)×Unit) Unit)) (x1:(S1 LI)) (x43:Int) (r81:LI) (x93:Int) (c1:LI→Int→Option LI) (Hc1:∀ (x42:LI) (x43:Int) (s:Nat→V),zk [(1,ji x2),(2,.fn 72 [.agg [eL x3.fs.1.a]] []),(3,.ref (.bx 3) 0 [] (.agg [eL x1.a])),(6,nI),(7,oI 7 [] (.of x42)),(8,ji x43)] s→c1 x42 x43=some r→Run D σ (JA r) (.run uT [.lp uT,.bk 0,.sq ZI]) s) (c4:LI→Int→Option LI) (Hc4:∀ (x92:LI) (x93:Int) (s:Nat→V),zk [(1,ji x2),(2,.fn 72 [.agg [eL x3.fs.1.a]] []),(3,.ref (.bx 3) 0 [] (.agg [eL x1.a])),(6,nI),(7,oI 7 [] (.of x92)),(8,ji x43),(30,eL r81),(31,ji (r81.length:Int)),(32,ji x93)] s→c4 x92 x93=some r→Run D σ (JA r) (.run Xk [.lp Xk,.bk 2,.bk 1,.sq Ww,.lp uT,.bk 0,.sq ZI]) s) (x111:LI) (s:Nat→V) (hs:zk [(1,ji x2),(2,.fn 72 [.agg [eL x3.fs.1.a]] []),(3,.ref (.bx 3) 0 [] (.agg [eL x1.a])),(6,nI),(7,oI 7 [] (.of x111)),(8,ji x43),(30,eL r81),(31,ji (r81.length:Int)),(32,ji x93)] s) (h:ym F x2 x3 x1 x43 r81 x93 c1 c4 x111=some r):Run D σ (JA r) (.nrm [.bk 3,.sq MU,.lp Xk,.bk 2,.bk 1,.sq Ww,.lp uT,.bk 0,.sq ZI]) s:=by
 unfold ym at h
 obtain ⟨h1,h2,h3,h6,h7,h8,h30,h31,h32⟩:=hs
 refine .nbk (.nsq (rg (g1 32 (ji (w64 (x93 + 1))) h32 fun h63=>gm h63 fun h32=>gq (.nlp ?_))))
 exact Hc4 x111 (w64 (x93 + 1)) _ ⟨h1,h2,h3,h6,h7,h8,h30,h31,h32⟩ h
def yn (F:Nat) (x2:Int) (x3:(Cl 72 ((S1 LI)×Unit) Unit)) (x1:(S1 LI)) (x92:LI) (x43:Int) (v107:Int) (r105:Int) (r81:LI) (x93:Int) (c1:LI→Int→Option LI) (c4:LI→Int→Option LI) (x109:Bool):Option LI:=
 bif x109 then
  (idx x92 x43).bind fun v112=>
  ym F x2 x3 x1 x43 r81 x93 c1 c4 (x92.set x43.toNat (if v107 > r105 then v107 else r105))
 else
  ym F x2 x3 x1 x43 r81 x93 c1 c4 x92
theorem L7 (H:Qh D σ F) (x2:Int) (x3:(Cl 72 ((S1 LI)×Unit) Unit)) (x1:(S1 LI)) (x92:LI) (x43:Int) (v107:Int) (r105:Int) (r81:LI) (x93:Int) (c1:LI→Int→Option LI) (Hc1:∀ (x42:LI) (x43:Int) (s:Nat→V),zk [(1,ji x2),(2,.fn 72 [.agg [eL x3.fs.1.a]] []),(3,.ref (.bx 3) 0 [] (.agg [eL x1.a])),(6,nI),(7,oI 7 [] (.of x42)),(8,ji x43)] s→c1 x42 x43=some r→Run D σ (JA r) (.run uT [.lp uT,.bk 0,.sq ZI]) s) (c4:LI→Int→Option LI) (Hc4:∀ (x92:LI) (x93:Int) (s:Nat→V),zk [(1,ji x2),(2,.fn 72 [.agg [eL x3.fs.1.a]] []),(3,.ref (.bx 3) 0 [] (.agg [eL x1.a])),(6,nI),(7,oI 7 [] (.of x92)),(8,ji x43),(30,eL r81),(31,ji (r81.length:Int)),(32,ji x93)] s→c4 x92 x93=some r→Run D σ (JA r) (.run Xk [.lp Xk,.bk 2,.bk 1,.sq Ww,.lp uT,.bk 0,.sq ZI]) s) (x109:Bool) (s:Nat→V) (hs:zk [(1,ji x2),(2,.fn 72 [.agg [eL x3.fs.1.a]] []),(3,.ref (.bx 3) 0 [] (.agg [eL x1.a])),(6,nI),(7,oI 7 [] (.of x92)),(8,ji x43),(11,ji (if v107 > r105 then v107 else r105)),(30,eL r81),(31,ji (r81.length:Int)),(32,ji x93),(58,jb x109)] s) (h:yn F x2 x3 x1 x92 x43 v107 r105 r81 x93 c1 c4 x109=some r):Run D σ (JA r) (.nrm [.sq zcs,.bk 3,.sq MU,.lp Xk,.bk 2,.bk 1,.sq Ww,.lp uT,.bk 0,.sq ZI]) s:=by
 unfold yn at h
 obtain ⟨h1,h2,h3,h6,h7,h8,h11,h30,h31,h32,h58⟩:=hs
 refine .nsq (zg h58 h (fun h=>?_) (fun h=>?_))
 · refine rg (gm h7 fun h59=>gm h8 fun h60=>gm h11 fun h61=>?_)
   obtain ⟨v112,Ev112,h⟩:=bind_some h
   refine gv (.ref (.at 7 []) x43.toNat [] (ji v112)) (wU (o:=.of x92) h59 h60 Ev112 rfl) fun h62=>yd (ji (if v107 > r105 then v107 else r105)) (zx h62 rfl) (zx h61 rfl) (ww (by first | rfl | simp [V.toks,V.tokss,Enc.toks_enc,ya])) ?_
   refine gz [(1,ji x2),(2,.fn 72 [.agg [eL x3.fs.1.a]] []),(3,.ref (.bx 3) 0 [] (.agg [eL x1.a])),(6,nI),(7,_),(8,ji x43),(30,eL r81),(31,ji (r81.length:Int)),(32,ji x93)] ⟨zd h1 rfl,zd h2 (zbr (zq (yD (zq uE rfl)) rfl) rfl),zd h3 (zH rfl rfl (yD (zq uE rfl))),zd h6 rfl,zd h7 Xh,zd h8 rfl,zd h30 uE,zd h31 rfl,zd h32 rfl⟩ ?_
   rintro s ⟨h1,h2,h3,h6,h7,h8,h30,h31,h32⟩
   exact MG H x2 x3 x1 x43 r81 x93 c1 Hc1 c4 Hc4 (x92.set x43.toNat (if v107 > r105 then v107 else r105)) _ ⟨h1,h2,h3,h6,h7,h8,h30,h31,h32⟩ h
 refine .skip ?_
 exact MG H x2 x3 x1 x43 r81 x93 c1 Hc1 c4 Hc4 x92 _ ⟨h1,h2,h3,h6,h7,h8,h30,h31,h32⟩ h
def zG (F:Nat) (x2:Int) (x3:(Cl 72 ((S1 LI)×Unit) Unit)) (x1:(S1 LI)) (x43:Int) (r81:LI) (c1:LI→Int→Option LI):Nat→LI→Int→Option LI
 | 0,_,_=>none
 | k + 1,x92,x93=>
   bif decide (x93 < (r81.length:Int)) then
    (idx r81 x93).bind fun v104=>
    (xe F x3.fs.1 x43 v104).bind fun r105=>
    (uB .i64 1 v104).bind fun q106=>
    (idx x92 (ior .i64 x43 q106)).bind fun v107=>
    bif (x93 == 0) then
     yn F x2 x3 x1 x92 x43 v107 r105 r81 x93 c1 (zG F x2 x3 x1 x43 r81 c1 k) true
    else
     (idx x92 x43).bind fun v113=>
     yn F x2 x3 x1 x92 x43 v107 r105 r81 x93 c1 (zG F x2 x3 x1 x43 r81 c1 k) (decide ((if v107 > r105 then v107 else r105) < v113))
   else
    c1 x92 (w64 (x43 - 1))
theorem zdz (H:Qh D σ F) (x2:Int) (x3:(Cl 72 ((S1 LI)×Unit) Unit)) (x1:(S1 LI)) (x43:Int) (r81:LI) (c1:LI→Int→Option LI) (Hc1:∀ (x42:LI) (x43:Int) (s:Nat→V),zk [(1,ji x2),(2,.fn 72 [.agg [eL x3.fs.1.a]] []),(3,.ref (.bx 3) 0 [] (.agg [eL x1.a])),(6,nI),(7,oI 7 [] (.of x42)),(8,ji x43)] s→c1 x42 x43=some r→Run D σ (JA r) (.run uT [.lp uT,.bk 0,.sq ZI]) s):∀ (k:Nat) (x92:LI) (x93:Int) (s:Nat→V),zk [(1,ji x2),(2,.fn 72 [.agg [eL x3.fs.1.a]] []),(3,.ref (.bx 3) 0 [] (.agg [eL x1.a])),(6,nI),(7,oI 7 [] (.of x92)),(8,ji x43),(30,eL r81),(31,ji (r81.length:Int)),(32,ji x93)] s→zG F x2 x3 x1 x43 r81 c1 k x92 x93=some r→Run D σ (JA r) (.run Xk [.lp Xk,.bk 2,.bk 1,.sq Ww,.lp uT,.bk 0,.sq ZI]) s:=by
 intro k
 induction k with
 | zero=>intro x92 x93 s _ h;exact nm h
 | succ k ih=>
   intro x92 x93 s hs h
   rw [zG] at h
   obtain ⟨h1,h2,h3,h6,h7,h8,h30,h31,h32⟩:=hs
   refine .seq (rg (g2 32 31 (jb (decide (x93 < (r81.length:Int)))) h32 h31 fun h33=>gq (.nsq (.seq (zg h33 h (fun h=>?_) (fun h=>?_))))))
   · refine .skip (.nsq (.seq (.block (.seq (rg (gm h32 fun h34=>?_))))))
     obtain ⟨v104,Ev104,h⟩:=bind_some h
     refine gv (.ref .sh 0 [] (ji v104)) (yq (t:=.sh) (lo:=0) (xs:=r81) h30 h32 Ev104 rfl rfl) fun h35=>g1 35 (ji v104) h35 fun h36=>gm h34 fun h9=>gm h36 fun h10=>gq (.nsq (.seq (rg (gm h2 fun h37=>gm h8 fun h38=>gm h10 fun h39=>?_))))
     obtain ⟨r105,Er105,h⟩:=bind_some h
     refine QK (m:=0) (al:=false) (r:=Enc.enc (r105:Int)) (fs:=[.agg [eL x3.fs.1.a]]) (env:=[]) (us:=[Enc.enc (x3.fs.1:(S1 LI))]) (ws:=[]) h37 (um (Enc.erase_enc (x3.fs.1:(S1 LI))) wz) wz rfl [Enc.enc (x43:Int),Enc.enc (v104:Int)] (zc (v:=ji x43) h38 rfl rfl (zc (v:=ji v104) h39 rfl rfl zp)) (H.c72 _ _ _ _ Er105) H.g72 rfl rfl rfl rfl (gm h7 fun h41=>gm h8 fun h42=>gm h10 fun h43=>?_)
     obtain ⟨q106,Eq106,h⟩:=bind_some h
     refine gv (ji q106) (vW rfl h43 Eq106) fun h44=>g2 42 44 (ji (ior .i64 x43 q106)) h42 h44 fun h45=>?_
     obtain ⟨v107,Ev107,h⟩:=bind_some h
     refine gv (.ref (.at 7 []) ((ior .i64 x43 q106).toNat) [] (ji v107)) (wU (o:=.of x92) h41 h45 Ev107 rfl) fun h46=>g1 46 (ji v107) h46 fun h47=>g2 40 47 (ji (if v107 > r105 then v107 else r105)) (rf (ji r105)) h47 fun h48=>gm h48 fun h11=>gq (.nsq (.seq (rg (gm h9 fun h49=>g1 49 (jb (x93 == 0)) h49 fun h50=>gm h50 fun h51=>zU h (fun hg3 h=>?_) (fun hg3 h=>?_)))))
     · iterate 6 refine zw (ct h51 hg3) ?_
       refine g2 51 57 (jb true) (ct h51 hg3) (rf (.tup [])) fun h58=>gz [(1,_),(2,_),(3,_),(6,_),(7,_),(8,_),(11,_),(30,_),(31,_),(32,_),(58,_)] ⟨h1,h2,h3,h6,h7,h8,h11,h30,h31,h32,h58⟩ ?_
       rintro s ⟨h1,h2,h3,h6,h7,h8,h11,h30,h31,h32,h58⟩
       exact L7 H x2 x3 x1 x92 x43 v107 r105 r81 x93 c1 Hc1 (zG F x2 x3 x1 x43 r81 c1 k) ih true _ ⟨h1,h2,h3,h6,h7,h8,h11,h30,h31,h32,h58⟩ h
     refine zh (ct h51 hg3) (gm h11 fun h52=>zh (ct h51 hg3) (gm h7 fun h53=>zh (ct h51 hg3) (gm h8 fun h54=>?_)))
     obtain ⟨v113,Ev113,h⟩:=bind_some h
     refine zh (ct h51 hg3) (gv (.ref (.at 7 []) x43.toNat [] (ji v113)) (wU (o:=.of x92) h53 h54 Ev113 rfl) fun h55=>zh (ct h51 hg3) (g1 55 (ji v113) h55 fun h56=>zh (ct h51 hg3) (g2 52 56 (jb (decide ((if v107 > r105 then v107 else r105) < v113))) h52 h56 fun h57=>g2 51 57 (jb (decide ((if v107 > r105 then v107 else r105) < v113))) (ct h51 hg3) h57 fun h58=>gz [(1,_),(2,_),(3,_),(6,_),(7,_),(8,_),(11,_),(30,_),(31,_),(32,_),(58,_)] ⟨h1,h2,h3,h6,h7,h8,h11,h30,h31,h32,h58⟩ ?_)))
     rintro s ⟨h1,h2,h3,h6,h7,h8,h11,h30,h31,h32,h58⟩
     exact L7 H x2 x3 x1 x92 x43 v107 r105 r81 x93 c1 Hc1 (zG F x2 x3 x1 x43 r81 c1 k) ih (decide ((if v107 > r105 then v107 else r105) < v113)) _ ⟨h1,h2,h3,h6,h7,h8,h11,h30,h31,h32,h58⟩ h
   refine .exit (.esq (.elp (.ebk (.nbk (.nsq (rg (gm h8 fun h20=>g1 20 (ji (w64 (x43 - 1))) h20 fun h21=>gm h21 fun h8=>gq (.nlp ?_))))))))
   exact Hc1 x92 (w64 (x43 - 1)) _ ⟨h1,h2,h3,h6,h7,h8⟩ h
def zB (F:Nat) (x2:Int) (x3:(Cl 72 ((S1 LI)×Unit) Unit)) (x1:(S1 LI)) :Nat→LI→Int→Option LI
 | 0,_,_=>none
 | k + 1,x42,x43=>
   bif decide (x43≥0) then
    (idx x42 x43).bind fun v79=>
    (yI F x1).bind fun r80=>
    (uU F (xp .i64 r80 x43)).bind fun r81=>
    zG F x2 x3 x1 x43 r81 (zB F x2 x3 x1 k) F (x42.set x43.toNat x2) 0
   else
    some x42
theorem zdj (H:Qh D σ F) (x2:Int) (x3:(Cl 72 ((S1 LI)×Unit) Unit)) (x1:(S1 LI)) :∀ (k:Nat) (x42:LI) (x43:Int) (s:Nat→V),zk [(1,ji x2),(2,.fn 72 [.agg [eL x3.fs.1.a]] []),(3,.ref (.bx 3) 0 [] (.agg [eL x1.a])),(6,nI),(7,oI 7 [] (.of x42)),(8,ji x43)] s→zB F x2 x3 x1 k x42 x43=some r→Run D σ (JA r) (.run uT [.lp uT,.bk 0,.sq ZI]) s:=by
 intro k
 induction k with
 | zero=>intro x42 x43 s _ h;exact nm h
 | succ k ih=>
   intro x42 x43 s hs h
   rw [zB] at h
   obtain ⟨h1,h2,h3,h6,h7,h8⟩:=hs
   refine .seq (.seq (rg (gm h8 fun h18=>g1 18 (jb (decide (x43≥0))) h18 fun h19=>gq (.nsq (zg h19 h (fun h=>?_) (fun h=>?_))))))
   · refine .skip (.nsq (.seq (.block (.seq (rg (gm h7 fun h22=>gm h8 fun h23=>gm h1 fun h24=>?_))))))
     obtain ⟨v79,Ev79,h⟩:=bind_some h
     refine gv (.ref (.at 7 []) x43.toNat [] (ji v79)) (wU (o:=.of x42) h22 h23 Ev79 rfl) fun h25=>yd (ji x2) (zx h25 rfl) (zx h24 rfl) (ww (by first | rfl | simp [V.toks,V.tokss,Enc.toks_enc,ya])) (gz [(1,ji x2),(2,.fn 72 [.agg [eL x3.fs.1.a]] []),(3,.ref (.bx 3) 0 [] (.agg [eL x1.a])),(6,nI),(7,_),(8,ji x43)] ⟨zd h1 rfl,zd h2 (zbr (zq (yD (zq uE rfl)) rfl) rfl),zd h3 (zH rfl rfl (yD (zq uE rfl))),zd h6 rfl,zd h7 Xh,zd h8 rfl⟩ ?_)
     rintro s ⟨h1,h2,h3,h6,h7,h8⟩
     refine .nsq (.seq (rg (g1 3 (.agg [eL x1.a]) h3 fun h26=>?_)))
     obtain ⟨r80,Er80,h⟩:=bind_some h
     refine zy (m:=0) (al:=false) (r:=Enc.enc (r80:Int)) [Enc.enc (x1:(S1 LI))] (zc (v:=.agg [eL x1.a]) h26 rfl (Enc.erase_enc (x1:(S1 LI))) zp) (H.c66 _ _ Er80) H.g66 rfl rfl rfl rfl (gm h8 fun h28=>g2 27 28 (ji (xp .i64 r80 x43)) (rf (ji r80)) h28 fun h29=>?_)
     obtain ⟨r81,Er81,h⟩:=bind_some h
     refine zy (m:=0) (al:=false) (r:=eL r81) [Enc.enc (xp .i64 r80 x43:Int)] (zc (v:=ji (xp .i64 r80 x43)) h29 rfl rfl zp) (H.c67 _ _ Er81) H.g67 rfl rfl rfl rfl (gl r81 rfl fun h31=>g0 (ji 0) fun h32=>gq (.nsq (.block (.loop ?_))))
     exact zdz H x2 x3 x1 x43 r81 (zB F x2 x3 x1 k) ih F (x42.set x43.toNat x2) 0 _ ⟨h1,h2,h3,h6,h7,h8,rfl,h31,h32⟩ h
   refine .exit (.esq (.elp (.ebk (.nsq (.seq (rg (gm h7 fun h64=>gm h64 fun h6=>yL (yr (r:=7) (x:=6) (v:=_) h6 rfl (fun s4 hz4=>?_)))))))))
   refine ez [(6,oI 6 [] (.of x42))] (hz4 6 _ _ h6 (zl (r:=7) (p:=[]) rfl rfl)) ?_
   rintro s h6
   refine .nsq (.ret ?_)
   obtain rfl:=oi h
   exact rrA (zf h6) (ud (wl (o:=.of x42)) (wx rfl))
def zY (F:Nat) (x1:(S1 LI)) (x2:Int) (x3:(Cl 72 ((S1 LI)×Unit) Unit)):Option LI:=
 (yI F x1).bind fun r4=>
 (mkN (w64 (r4 + 1)) (0:Int)).bind fun mk5=>
 (yI F x1).bind fun r6=>
 zB F x2 x3 x1 F mk5 r6
theorem zpA (H:Qh D σ F) (x1:(S1 LI)) (x2:Int) (x3:(Cl 72 ((S1 LI)×Unit) Unit)) (s:Nat→V) (hs:zk [(0,.agg [eL x1.a]),(1,ji x2),(2,.fn 72 [.agg [eL x3.fs.1.a]] [])] s) (h:zY F x1 x2 x3=some r):Run D σ (JA r) (.run zlA []) s:=by
 unfold zY at h
 obtain ⟨h0,h1,h2⟩:=hs
 refine .seq (zo (zT ?_))
 refine ez [(0,_),(1,_),(2,_),(3,_)] ⟨za h0 rfl (zF (ze me zm)),za h1 rfl mi,za h2 rfl (Wf (ze (zF (ze me zm)) zm) zm),zb rfl⟩ ?_
 rintro s ⟨h0,h1,h2,h3⟩
 refine xo (.agg [eL x1.a]) (zx h0 rfl) h3 rfl (g0 nI fun h6=>gq (.nsq (.seq (zo (zT ?_)))))
 refine ez [(1,_),(2,_),(3,_),(6,_),(15,_)] ⟨za h1 rfl mi,za h2 rfl (Wf (ze (zF (ze me zm)) zm) zm),za rfl rfl (zi rfl (zF (ze me zm))),za h6 rfl rfl,zb rfl⟩ ?_
 rintro s ⟨h1,h2,h3,h6,h15⟩
 refine g1 3 (.agg [eL x1.a]) h3 fun h12=>?_
 obtain ⟨r4,Er4,h⟩:=bind_some h
 refine zy (m:=0) (al:=false) (r:=Enc.enc (r4:Int)) [Enc.enc (x1:(S1 LI))] (zc (v:=.agg [eL x1.a]) h12 rfl (Enc.erase_enc (x1:(S1 LI))) zp) (H.c66 _ _ Er4) H.g66 rfl rfl rfl rfl (g1 13 (ji (w64 (r4 + 1))) (rf (ji r4)) fun h14=>?_)
 obtain ⟨mk5,Emk5,h⟩:=bind_some h
 refine zkL (0:Int) h14 rfl h15 Emk5 (gm (rf (oI 15 [] (.of mk5))) fun h7=>yL (yr (r:=15) (x:=7) (v:=_) h7 rfl (fun s3 hz3=>?_)))
 refine ez [(1,ji x2),(2,.fn 72 [.agg [eL x3.fs.1.a]] []),(3,.ref (.bx 3) 0 [] (.agg [eL x1.a])),(6,nI),(7,oI 7 [] (.of mk5))] ⟨hz3 1 _ _ h1 mi,hz3 2 _ _ h2 (Wf (ze (zF (ze me zm)) zm) zm),hz3 3 _ _ h3 (zi rfl (zF (ze me zm))),hz3 6 _ _ h6 rfl,hz3 7 _ _ h7 (zl (r:=15) (p:=[]) rfl rfl)⟩ ?_
 rintro s ⟨h1,h2,h3,h6,h7⟩
 refine .nsq (.seq (.seq (rg (g1 3 (.agg [eL x1.a]) h3 fun h16=>?_))))
 obtain ⟨r6,Er6,h⟩:=bind_some h
 refine zy (m:=0) (al:=false) (r:=Enc.enc (r6:Int)) [Enc.enc (x1:(S1 LI))] (zc (v:=.agg [eL x1.a]) h16 rfl (Enc.erase_enc (x1:(S1 LI))) zp) (H.c66 _ _ Er6) H.g66 rfl rfl rfl rfl (gm (rf (ji r6)) fun h8=>gq (.nsq (.block (.loop ?_))))
 exact zdj H x2 x3 x1 F mk5 r6 _ ⟨h1,h2,h3,h6,h7,h8⟩ h
end
def zgW (F:Nat):Ent:=ent 35 (fun (x:((S1 LI)×Int×(Cl 72 ((S1 LI)×Unit) Unit)×Unit))=>zY F x.1 x.2.1 x.2.2.1) (fun (r:LI)=>(eL r)) 0 false [(2,72)]
abbrev zlP (D:List V→Option V) (F:Nat):Prop:=∀ (x0:(S1 LI)) (x1:Int) (x2:(Cl 72 ((S1 LI)×Unit) Unit)) r,zY F x0 x1 x2=some r→D [Enc.enc x0,Enc.enc x1,Arg.arg x2]=some (eL r)
theorem zp9 {F:Nat}:zlP (zgW F).den F:=fun x0 x1 x2 _ h=>zK (x0,x1,x2,()) h
theorem zs8 (hF:zr Try.prog D σ) (H:Qh D σ F):(zgW F).Ok Try.prog:=okZ (f:=35) Try.func35 fun ⟨x0,x1,x2,_⟩ y hy=>cR hF Try.func35 c35s2 (zpA H x0 x1 x2 _ ⟨rfl,rfl,rfl⟩ hy)
def zt6:AC:=(.seq (rr [jv 3 (.load (.ag [.p]) (.t 1)),jv 4 (.load (.ag [.p]) (.t 1)),jv 5 (.fn 72 [.t 4] []),jx 6 (.call (jf 35) [.t 3,jn 0,.t 5]),jv 7 (.idx (.t 6) (jn 0) 1),jl 8 7,jm 2 8]) .ret)
def A45:AC:=(.seq (.reg [.clr [1]] [jx 1 (.box (.t 0)),jv 2 (.mov (jn 0))] []) zt6)
def zvr:List An:=[⟨0,[.clr [1]],[],[],[]⟩]
theorem c45:cq Try.prog Try.f45 zvr=some A45:=by kernel_rfl
structure H45 (D:Den) (σ:Sig) (F:Nat):Prop where
 c35s2:zlP (D 35) F
 g35s2:σ 35=some (0,false)
abbrev R45 (r:Int):(Nat→V)→Prop:=RR Try.prog [.tmp 2] 0 false (Enc.enc (r:Int))
section
variable {r:Int}
def xM (F:Nat) (x1:(S1 LI)):Option Int:=
 (zY F x1 0 (Cl.mk (x1,()) ():(Cl 72 ((S1 LI)×Unit) Unit))).bind fun r2=>
 (idx r2 0).bind fun v3=>
 some v3
theorem t45 (H:H45 D σ F) (x1:(S1 LI)) (s:Nat→V) (hs:zk [(0,.agg [eL x1.a])] s) (h:xM F x1=some r):Run D σ (R45 r) (.run A45 []) s:=by
 unfold xM at h
 have h0:=hs
 refine .seq (zo (zT ?_))
 refine ez [(0,_),(1,_)] ⟨za h0 rfl (zF (ze me zm)),zb rfl⟩ ?_
 rintro s ⟨h0,h1⟩
 refine xo (.agg [eL x1.a]) (zx h0 rfl) h1 rfl (g0 (ji 0) fun h2=>gq (.nsq (.seq (rg (g1 1 (.agg [eL x1.a]) (rf (.ref (.bx 1) 0 [] (.agg [eL x1.a]))) fun h3=>g1 1 (.agg [eL x1.a]) (rf (.ref (.bx 1) 0 [] (.agg [eL x1.a]))) fun h4=>g1 4 (.fn 72 [.agg [eL x1.a]] []) h4 fun h5=>?_)))))
 obtain ⟨r2,Er2,h⟩:=bind_some h
 refine zy (m:=0) (al:=false) (r:=eL r2) [Enc.enc (x1:(S1 LI)),Enc.enc (0:Int),Arg.arg ((Cl.mk (x1,()) ():(Cl 72 ((S1 LI)×Unit) Unit)):(Cl 72 ((S1 LI)×Unit) Unit))] (zc (v:=.agg [eL x1.a]) h3 rfl (Enc.erase_enc (x1:(S1 LI))) (zc (v:=ji 0) rfl rfl rfl (zc (v:=.fn 72 [.agg [eL x1.a]] []) h5 rfl (MR (um (Enc.erase_enc (x1:(S1 LI))) wz) wz) zp))) (H.c35s2 _ _ _ _ Er2) H.g35s2 rfl rfl rfl rfl ?_
 obtain ⟨v3,Ev3,h⟩:=bind_some h
 refine gv (.ref .sh 0 [] (ji v3)) (yq (t:=.sh) (lo:=0) (xs:=r2) rfl rfl Ev3 rfl rfl) fun h7=>g1 7 (ji v3) h7 fun h8=>gm h8 fun h2=>gq (.nsq (.ret ?_))
 obtain rfl:=oi h
 exact rrA (zf h2) rfl
end
def e45 (F:Nat):Ent:=ent 45 (fun (x:((S1 LI)×Unit))=>xM F x.1) (fun (r:Int)=>(Enc.enc (r:Int))) 0 false []
abbrev C45 (D:List V→Option V) (F:Nat):Prop:=∀ (x0:(S1 LI)) r,xM F x0=some r→D [Enc.enc x0]=some (Enc.enc (r:Int))
theorem p45 {F:Nat}:C45 (e45 F).den F:=fun x0 _ h=>zK (x0,()) h
theorem o45 (hF:zr Try.prog D σ) (H:H45 D σ F):(e45 F).Ok Try.prog:=okZ (f:=45) Try.func45 fun ⟨x0,_⟩ y hy=>cR hF Try.func45 c45 (t45 H x0 _ rfl hy)
def zqy:AC:=(.cond (.t 6) (.seq (rr [jv 2 (.mov (jn 0)),jv 3 (.mov kf)]) .ret) .skip)
def zqH:AC:=(.seq (rr [jv 7 (.load (.ag [.s,.p]) (.t 1)),jx 8 (.call (jf 28) [.t 7]),jx 9 (.call (jf 45) [.t 8]),jm 2 9,jv 3 (.mov kt)]) .ret)
def zqo:AC:=(.seq (.seq (rr [jv 4 (.load (.ag [.s,.p]) (.t 1)),jx 5 (.call (jf 23) [.t 4]),jv 6 (.un .not (.t 5))]) zqy) zqH)
def A19:AC:=(.seq (.reg [.clr [1]] [jx 1 (.box (.t 0)),jv 2 (.mov (jn 0)),jv 3 (.mov kf)] []) zqo)
def zvd:List An:=[⟨0,[.clr [1]],[],[],[]⟩]
theorem c19:cq Try.prog Try.f19 zvd=some A19:=by kernel_rfl
structure H19 (D:Den) (σ:Sig) (F:Nat):Prop where
 c23:C23 (D 23) F
 g23:σ 23=some (0,false)
 c28:C28 (D 28) F
 g28:σ 28=some (0,false)
 c45:C45 (D 45) F
 g45:σ 45=some (0,false)
abbrev R19 (r:(Int×Bool)):(Nat→V)→Prop:=RR Try.prog [.tmp 2,.tmp 3] 0 false (.tup [Enc.enc (r.1:Int),Enc.enc (r.2:Bool)])
section
variable {r:(Int×Bool)}
def w5 (F:Nat) (x1:GR):Option (Int×Bool):=
 (xF F x1).bind fun r2=>
 bif (!r2) then
  some (0,false)
 else
  (vw F x1).bind fun r3=>
  (xM F r3).bind fun r4=>
  some (r4,true)
theorem t19 (H:H19 D σ F) (x1:GR) (s:Nat→V) (hs:zk [(0,gV x1)] s) (h:w5 F x1=some r):Run D σ (R19 r) (.run A19 []) s:=by
 unfold w5 at h
 have h0:=hs
 refine .seq (zo (zT ?_))
 refine ez [(0,_),(1,_)] ⟨za h0 rfl mIE,zb rfl⟩ ?_
 rintro s ⟨h0,h1⟩
 refine xo (gV x1) (zx h0 rfl) h1 rfl (g0 (ji 0) fun h2=>g0 (jb false) fun h3=>gq (.nsq (.seq (.seq (rg (g1 1 (gV x1) (rf (bG 1 x1)) fun h4=>?_))))))
 obtain ⟨r2,Er2,h⟩:=bind_some h
 refine zy (m:=0) (al:=false) (r:=Enc.enc (r2:Bool)) [Enc.enc (x1:GR)] (zc (v:=gV x1) h4 rfl (Enc.erase_enc (x1:GR)) zp) (H.c23 _ _ Er2) H.g23 rfl rfl rfl rfl (g1 5 (jb (!r2)) (rf (jb r2)) fun h6=>gq (.nsq (zg h6 h (fun h=>?_) (fun h=>?_))))
 · refine .seq (rg (g0 (ji 0) fun h2=>g0 (jb false) fun h3=>gq (.nsq (.ret ?_))))
   obtain rfl:=oi h
   exact rrB (zf h2) (zf h3) rfl
 refine .skip (.nsq (.seq (rg (g1 1 (gV x1) (rf (bG 1 x1)) fun h7=>?_))))
 obtain ⟨r3,Er3,h⟩:=bind_some h
 refine zy (m:=0) (al:=false) (r:=Enc.enc (r3:(S1 LI))) [Enc.enc (x1:GR)] (zc (v:=gV x1) h7 rfl (Enc.erase_enc (x1:GR)) zp) (H.c28 _ _ Er3) H.g28 rfl rfl rfl rfl ?_
 obtain ⟨r4,Er4,h⟩:=bind_some h
 refine zy (m:=0) (al:=false) (r:=Enc.enc (r4:Int)) [Enc.enc (r3:(S1 LI))] (zc (v:=.agg [eL r3.a]) rfl rfl (Enc.erase_enc (r3:(S1 LI))) zp) (H.c45 _ _ Er4) H.g45 rfl rfl rfl rfl (gm (rf (ji r4)) fun h2=>g0 (jb true) fun h3=>gq (.nsq (.ret ?_)))
 obtain rfl:=oi h
 exact rrB (zf h2) (zf h3) rfl
end
def e19 (F:Nat):Ent:=ent 19 (fun (x:(GR×Unit))=>w5 F x.1) (fun (r:(Int×Bool))=>(.tup [Enc.enc (r.1:Int),Enc.enc (r.2:Bool)])) 0 false []
abbrev C19 (D:List V→Option V) (F:Nat):Prop:=∀ (x0:GR) r,w5 F x0=some r→D [Enc.enc x0]=some (.tup [Enc.enc (r.1:Int),Enc.enc (r.2:Bool)])
theorem p19 {F:Nat}:C19 (e19 F).den F:=fun x0 _ h=>zK (x0,()) h
theorem o19 (hF:zr Try.prog D σ) (H:H19 D σ F):(e19 F).Ok Try.prog:=okZ (f:=19) Try.func19 fun ⟨x0,_⟩ y hy=>cR hF Try.func19 c19 (t19 H x0 _ rfl hy)
def ztn:AC:=(.cond (.t 8) .skip (.exit 0))
def zuo:AC:=(.cond (.t 16) (rr [jm 17 0,jm 18 4,jv 19 (.idx (.t 17) (.t 18) 1),jl 20 19,jm 3 20]) .skip)
def zlU:AC:=(rr [jm 9 4,jv 10 (.bin .add (.t 9) (jn 1)),jm 4 10])
def zpp:AC:=(.seq (.block 1 (.seq (rr [jm 11 0,jm 12 4,jv 13 (.idx (.t 11) (.t 12) 1),jl 14 13,jm 15 3,jv 16 (.bin .gtr (.t 14) (.t 15))]) zuo)) zlU)
def NQ:AC:=(.seq (.seq (rr [jm 5 4,jm 6 0,jk 7 6,jv 8 (.bin .lss (.t 5) (.t 7))]) ztn) zpp)
def zd1:AC:=(.seq (rr [jm 21 3,jm 2 21]) .ret)
def zsf:AC:=(.block 0 (.loop NQ))
def zsh:AC:=(.seq (.seq (rr [jv 4 (.mov (jn 0))]) zsf) zd1)
def ztT:AC:=(.seq (rr [jv 3 (.mov (jn 0))]) zsh)
def A20:AC:=(.seq (rr [jv 2 (.mov (jn 0))]) ztT)
def zvn:List An:=[]
theorem c20:cq Try.prog Try.f20 zvn=some A20:=by kernel_rfl
structure H20 (D:Den) (σ:Sig) (F:Nat):Prop where
 mk ::
abbrev R20 (r:Int):(Nat→V)→Prop:=RR Try.prog [.tmp 2] 0 false (Enc.enc (r:Int))
section
variable {r:Int}
def XP (F:Nat) (x1:LI) (x7:Int) (c1:Int→Int→Option Int) (x14:Int):Option Int:=
 c1 x14 (w64 (x7 + 1))
theorem zct (H:H20 D σ F) (x1:LI) (x7:Int) (c1:Int→Int→Option Int) (Hc1:∀ (x6:Int) (x7:Int) (s:Nat→V),zk [(0,eL x1),(2,ji 0),(3,ji x6),(4,ji x7)] s→c1 x6 x7=some r→Run D σ (R20 r) (.run NQ [.lp NQ,.bk 0,.sq zd1]) s) (x14:Int) (s:Nat→V) (hs:zk [(0,eL x1),(2,ji 0),(3,ji x14),(4,ji x7)] s) (h:XP F x1 x7 c1 x14=some r):Run D σ (R20 r) (.nrm [.bk 1,.sq zlU,.lp NQ,.bk 0,.sq zd1]) s:=by
 unfold XP at h
 obtain ⟨h0,h2,h3,h4⟩:=hs
 refine .nbk (.nsq (rg (gm h4 fun h9=>g1 9 (ji (w64 (x7 + 1))) h9 fun h10=>gm h10 fun h4=>gq (.nlp ?_))))
 exact Hc1 x14 (w64 (x7 + 1)) _ ⟨h0,h2,h3,h4⟩ h
def vH (F:Nat) (x1:LI) :Nat→Int→Int→Option Int
 | 0,_,_=>none
 | k + 1,x6,x7=>
   bif decide (x7 < (x1.length:Int)) then
    (idx x1 x7).bind fun v12=>
    bif decide (v12 > x6) then
     (idx x1 x7).bind fun v15=>
     XP F x1 x7 (vH F x1 k) v15
    else
     XP F x1 x7 (vH F x1 k) x6
   else
    some x6
theorem ziG (H:H20 D σ F) (x1:LI) :∀ (k:Nat) (x6:Int) (x7:Int) (s:Nat→V),zk [(0,eL x1),(2,ji 0),(3,ji x6),(4,ji x7)] s→vH F x1 k x6 x7=some r→Run D σ (R20 r) (.run NQ [.lp NQ,.bk 0,.sq zd1]) s:=by
 intro k
 induction k with
 | zero=>intro x6 x7 s _ h;exact nm h
 | succ k ih=>
   intro x6 x7 s hs h
   rw [vH] at h
   obtain ⟨h0,h2,h3,h4⟩:=hs
   refine .seq (.seq (rg (gm h4 fun h5=>gm h0 fun h6=>gl x1 h6 fun h7=>g2 5 7 (jb (decide (x7 < (x1.length:Int)))) h5 h7 fun h8=>gq (.nsq (zg h8 h (fun h=>?_) (fun h=>?_))))))
   · refine .skip (.nsq (.seq (.block (.seq (rg (gm h0 fun h11=>gm h4 fun h12=>?_))))))
     obtain ⟨v12,Ev12,h⟩:=bind_some h
     refine gv (.ref .sh 0 [] (ji v12)) (yq (t:=.sh) (lo:=0) (xs:=x1) h11 h12 Ev12 rfl rfl) fun h13=>g1 13 (ji v12) h13 fun h14=>gm h3 fun h15=>g2 14 15 (jb (decide (v12 > x6))) h14 h15 fun h16=>gq (.nsq (zg h16 h (fun h=>?_) (fun h=>?_)))
     · refine rg (gm h0 fun h17=>gm h4 fun h18=>?_)
       obtain ⟨v15,Ev15,h⟩:=bind_some h
       refine gv (.ref .sh 0 [] (ji v15)) (yq (t:=.sh) (lo:=0) (xs:=x1) h17 h18 Ev15 rfl rfl) fun h19=>g1 19 (ji v15) h19 fun h20=>gm h20 fun h3=>gq ?_
       exact zct H x1 x7 (vH F x1 k) ih v15 _ ⟨h0,h2,h3,h4⟩ h
     refine .skip ?_
     exact zct H x1 x7 (vH F x1 k) ih x6 _ ⟨h0,h2,h3,h4⟩ h
   refine .exit (.esq (.elp (.ebk (.nsq (.seq (rg (gm h3 fun h21=>gm h21 fun h2=>gq (.nsq (.ret ?_)))))))))
   obtain rfl:=oi h
   exact rrA (zf h2) rfl
def Ub (F:Nat) (x1:LI):Option Int:=
 vH F x1 F 0 0
theorem t20 (H:H20 D σ F) (x1:LI) (s:Nat→V) (hs:zk [(0,eL x1)] s) (h:Ub F x1=some r):Run D σ (R20 r) (.run A20 []) s:=by
 unfold Ub at h
 have h0:=hs
 refine .seq (rg (g0 (ji 0) fun h2=>gq (.nsq (.seq (rg (g0 (ji 0) fun h3=>gq (.nsq (.seq (.seq (rg (g0 (ji 0) fun h4=>gq (.nsq (.block (.loop ?_))))))))))))))
 exact ziG H x1 F 0 0 _ ⟨h0,h2,h3,h4⟩ h
end
def e20 (F:Nat):Ent:=ent 20 (fun (x:(LI×Unit))=>Ub F x.1) (fun (r:Int)=>(Enc.enc (r:Int))) 0 false []
abbrev C20 (D:List V→Option V) (F:Nat):Prop:=∀ (x0:LI) r,Ub F x0=some r→D [Enc.enc x0]=some (Enc.enc (r:Int))
theorem p20 {F:Nat}:C20 (e20 F).den F:=fun x0 _ h=>zK (x0,()) h
theorem o20 (hF:zr Try.prog D σ) (H:H20 D σ F):(e20 F).Ok Try.prog:=okZ (f:=20) Try.func20 fun ⟨x0,_⟩ y hy=>cR hF Try.func20 c20 (t20 H x0 _ rfl hy)
end Go.Zq
