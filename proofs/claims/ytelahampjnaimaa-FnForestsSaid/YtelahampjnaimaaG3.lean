/- Functions of the program as typed functions, and that the machine runs as they say (part 3). No further condition. -/
import Derived.Test.YtelahampjnaimaaK4
import Derived.Test.YtelahampjnaimaaProg
import Derived.Test.YtelahampjnaimaaChecked
import Derived.KernelRfl
import Derived.Test.YtelahampjnaimaaG2
set_option linter.unusedVariables false
set_option linter.unusedSimpArgs false
namespace Go.Zq
open Go.Proofs
variable {D:Den} {σ:Sig} {F:Nat}
def zph:AC:=(.seq (.reg [.clr [8,11]] [jv 3 (.load (.ag [.s,.p]) (.t 1)),jv 4 (.load (.ag [.s,.p]) (.t 1)),jx 5 (.call (jf 58) [.t 4]),jv 6 (.fld (.t 1) 0 0),jl 7 6,jx 8 (.mk (.t 7) i0 i0),jv 9 (.load (.ag [.s,.p]) (.t 1)),jx 10 (.call (jf 43) [.t 9]),jx 11 (.callO (jf 61) [.t 3,.t 5,.t 8,.t 10,jn (-1)]),jm 2 11] [.home 11 2]) .ret)
def zq1:AC:=(.seq (.reg [.clr [1]] [jx 1 (.box (.t 0)),jv 2 (.mov (.k (.sl .nl .s 0 [])))] []) zph)
def zu0:List An:=[⟨0,[.clr [1]],[],[],[]⟩,⟨1,[.clr [8,11]],[],[1008],[.home 11 2]⟩]
theorem c38o:cq Try.prog Try.f38 zu0=some zq1:=by kernel_rfl
structure zuf (D:Den) (σ:Sig) (F:Nat):Prop where
 c58:C58 (D 58) F
 g58:σ 58=some (0,false)
 c43:C43 (D 43) F
 g43:σ 43=some (0,true)
 c61o:∀ (x0:GR) (x1:LI) (x2:LI) (x3:LI) (x4:Int) r,XD F x0 x1 x2 x3 x4=some r→D 1000000061 [Enc.enc x0,Enc.enc x1,Enc.enc x2,Enc.enc x3,Enc.enc x4]=some (zu .sh (r:NL Int))
 g61o:σ 1000000061=some (1,false)
abbrev zxd (r:(NL Int)):(Nat→V)→Prop:=RR Try.prog [.tmp 2] 1 false (zu .sh (r:NL Int))
section
variable {r:(NL Int)}
def YC (F:Nat) (x1:GR):Option (NL Int):=
 (Zo F x1).bind fun r2=>
 (mkN x1.1 (0:Int)).bind fun mk3=>
 (Wg F x1).bind fun r4=>
 (XD F x1 r2 mk3 r4 (-1)).bind fun r5=>
 some r5
theorem zxx (H:zuf D σ F) (x1:GR) (s:Nat→V) (hs:zr [(0,gV x1)] s) (h:YC F x1=some r):Run D σ (zxd r) (.run zq1 []) s:=by
 unfold YC at h
 have h0:=hs
 refine .seq (zw (z3 ?_))
 refine ez [(0,_),(1,_)] ⟨za h0 rfl mIE,ze rfl⟩ ?_
 rintro s ⟨h0,h1⟩
 refine xo (gV x1) (zF h0 rfl) h1 rfl (g0 nI fun h2=>gq (.nsq (.seq (zw (z3 ?_)))))
 refine ez [(1,_),(2,_),(8,_),(11,_)] ⟨za rfl rfl (zj rfl mIE),za h2 rfl rfl,ze rfl,ze rfl⟩ ?_
 rintro s ⟨h1,h2,h8,h11⟩
 refine g1 1 (gV x1) h1 fun h3=>g1 1 (gV x1) h1 fun h4=>?_
 obtain ⟨r2,Er2,h⟩:=zb h
 refine gcF [Enc.enc (x1:GR)] (zf h4 rfl (Enc.erase_enc (x1:GR)) zA) (H.c58 _ _ Er2) H.g58 (g1 1 (.ref (.bx 1) 0 [0] (ji x1.1)) h1 fun h6=>g1 6 (ji x1.1) h6 fun h7=>?_)
 obtain ⟨mk3,Emk3,h⟩:=zb h
 refine zdz (0:Int) h7 rfl h8 Emk3 (g1 1 (gV x1) h1 fun h9=>?_)
 obtain ⟨r4,Er4,h⟩:=zb h
 refine ZI (m:=0) (al:=true) (r:=eL r4) [Enc.enc (x1:GR)] (zf h9 rfl (Enc.erase_enc (x1:GR)) zA) (H.c43 _ _ Er4) H.g43 (ZP (xQ (v:=gV x1) h9 rfl rfl Z2)) rfl rfl rfl ?_
 obtain ⟨r5,Er5,h⟩:=zb h
 refine ZM (m:=1) (al:=false) (r:=zu .sh (r5:NL Int)) (v:=oI 11 [] r5) (kk:=1000000061) [Enc.enc (x1:GR),eL r2,eL mk3,eL r4,Enc.enc ((-1):Int)] (zf h3 rfl (Enc.erase_enc (x1:GR)) (zf (v:=eL r2) rfl rfl (Enc.erase_enc (r2:LI)) (zf (v:=oI 8 [] (.of mk3)) rfl rfl (uw (o:=.of mk3)) (zf (v:=eL r4) rfl rfl (Enc.erase_enc (r4:LI)) (zf (v:=ji (-1)) rfl rfl rfl zA))))) (H.c61o _ _ _ _ _ _ Er5) H.g61o rfl ve uc vK h11 (gv (oI 11 [] r5) (wn rfl yU) fun h2=>yS (yu (r:=11) (x:=2) (v:=_) h2 yU (fun s3 hz3=>?_)))
 refine ez [(2,oI 2 [] r5)] (hz3 2 _ _ h2 (zq (r:=11) (p:=[]) rfl rfl)) ?_
 rintro s h2
 refine .nsq (.ret ?_)
 obtain rfl:=oi h
 exact rrA (zo h2) (Xc (Xs (o:=(r5:NL Int))) rfl (xD rfl))
end
def zn6 (F:Nat):Ent:=ent 1000000038 (fun (x:(GR×Unit))=>YC F x.1) (fun (r:(NL Int))=>(zu .sh (r:NL Int))) 1 false []
abbrev zpY (D:List V→Option V) (F:Nat):Prop:=∀ (x0:GR) r,YC F x0=some r→D [Enc.enc x0]=some (zu .sh (r:NL Int))
theorem zwZ {F:Nat}:zpY (zn6 F).den F:=fun x0 _ h=>zU (x0,()) h
theorem zwa (hF:zG Try.prog D σ) (H:zuf D σ F):(zn6 F).Ok Try.prog:=okZ (f:=38) Try.func38 fun ⟨x0,_⟩ y hy=>cR hF Try.func38 c38o (zxx H x0 _ rfl hy)
def zoI:AC:=(.cond (.t 6) (.seq (.reg [.clr [7]] [jx 7 (.lit i0 0 []),jm 2 7,jv 3 (.mov kf)] [.home 7 2]) .ret) .skip)
def znr:AC:=(.seq (.reg [.clr [9]] [jv 8 (.load (.ag [.s,.p]) (.t 1)),jx 9 (.callO (jf 38) [.t 8]),jm 2 9,jv 3 (.mov kt)] [.home 9 2]) .ret)
def zpc:AC:=(.seq (.seq (rr [jv 4 (.load (.ag [.s,.p]) (.t 1)),jx 5 (.call (jf 28) [.t 4]),jv 6 (.un .not (.t 5))]) zoI) znr)
def zqT:AC:=(.seq (.reg [.clr [1]] [jx 1 (.box (.t 0)),jv 2 (.mov (.k (.sl .nl .s 0 []))),jv 3 (.mov kf)] []) zpc)
def zrA:List An:=[⟨0,[.clr [1]],[],[],[]⟩,⟨2,[.clr [7]],[],[],[.home 7 2]⟩,⟨3,[.clr [9]],[],[1001],[.home 9 2]⟩]
theorem c13o:cq Try.prog Try.f13 zrA=some zqT:=by kernel_rfl
structure ztO (D:Den) (σ:Sig) (F:Nat):Prop where
 c28:C28 (D 28) F
 g28:σ 28=some (0,false)
 c38o:zpY (D 1000000038) F
 g38o:σ 1000000038=some (1,false)
abbrev zxA (r:((NL Int)×Bool)):(Nat→V)→Prop:=RR Try.prog [.tmp 2,.tmp 3] 1 false (.tup [zu .sh (r.1:NL Int),Enc.enc (r.2:Bool)])
section
variable {r:((NL Int)×Bool)}
def wu (F:Nat) (x1:GR):Option ((NL Int)×Bool):=
 (Zu F x1).bind fun r2=>
 bif (!r2) then
  some ((.of []),false)
 else
  (YC F x1).bind fun r3=>
  some (r3,true)
theorem zw7 (H:ztO D σ F) (x1:GR) (s:Nat→V) (hs:zr [(0,gV x1)] s) (h:wu F x1=some r):Run D σ (zxA r) (.run zqT []) s:=by
 unfold wu at h
 have h0:=hs
 refine .seq (zw (z3 ?_))
 refine ez [(0,_),(1,_)] ⟨za h0 rfl mIE,ze rfl⟩ ?_
 rintro s ⟨h0,h1⟩
 refine xo (gV x1) (zF h0 rfl) h1 rfl (g0 nI fun h2=>g0 (jb false) fun h3=>gq (.nsq (.seq (.seq (rg (g1 1 (gV x1) (rf (bG 1 x1)) fun h4=>?_))))))
 obtain ⟨r2,Er2,h⟩:=zb h
 refine gcF [Enc.enc (x1:GR)] (zf h4 rfl (Enc.erase_enc (x1:GR)) zA) (H.c28 _ _ Er2) H.g28 (g1 5 (jb (!r2)) (rf (jb r2)) fun h6=>gq (.nsq (zn h6 h (fun h=>?_) (fun h=>?_))))
 · refine .seq (zw (z3 ?_))
   refine ez [(1,_),(2,_),(3,_),(7,_)] ⟨za rfl rfl (zj rfl mIE),za h2 rfl rfl,za h3 rfl mb,ze rfl⟩ ?_
   rintro s ⟨h1,h2,h3,h7⟩
   refine xI [] [] trivial rfl rfl h7 (gm (rf (oI 7 [] (.of []))) fun h2=>g0 (jb false) fun h3=>yS (yu (r:=7) (x:=2) (v:=_) h2 rfl (fun s5 hz5=>?_)))
   refine ez [(1,bG 1 x1),(2,oI 2 [] (.of [])),(3,jb false)] ⟨hz5 1 _ _ h1 (zj rfl mIE),hz5 2 _ _ h2 (zq (r:=7) (p:=[]) rfl rfl),hz5 3 _ _ h3 mb⟩ ?_
   rintro s ⟨h1,h2,h3⟩
   refine .nsq (.ret ?_)
   obtain rfl:=oi h
   exact rrB (zo h2) (zo h3) (Xc (zej (uq (Xs (o:=((.of []):NL Int))) (uq zaq UK))) rfl (UI (xn (xD rfl) (xn rfl ZG))))
 refine .skip (.nsq (.seq (zw (z3 ?_))))
 refine ez [(1,_),(2,_),(3,_),(9,_)] ⟨za rfl rfl (zj rfl mIE),za h2 rfl rfl,za h3 rfl mb,ze rfl⟩ ?_
 rintro s ⟨h1,h2,h3,h9⟩
 refine g1 1 (gV x1) h1 fun h8=>?_
 obtain ⟨r3,Er3,h⟩:=zb h
 refine ZM (m:=1) (al:=false) (r:=zu .sh (r3:NL Int)) (v:=oI 9 [] r3) (kk:=1000000038) [Enc.enc (x1:GR)] (zf h8 rfl (Enc.erase_enc (x1:GR)) zA) (H.c38o _ _ Er3) H.g38o rfl ve uc vK h9 (gv (oI 9 [] r3) (wn rfl yU) fun h2=>g0 (jb true) fun h3=>yS (yu (r:=9) (x:=2) (v:=_) h2 yU (fun s7 hz7=>?_)))
 refine ez [(2,oI 2 [] r3),(3,jb true)] ⟨hz7 2 _ _ h2 (zq (r:=9) (p:=[]) rfl rfl),hz7 3 _ _ h3 mb⟩ ?_
 rintro s ⟨h2,h3⟩
 refine .nsq (.ret ?_)
 obtain rfl:=oi h
 exact rrB (zo h2) (zo h3) (Xc (zej (uq (Xs (o:=(r3:NL Int))) (uq zaq UK))) rfl (UI (xn (xD rfl) (xn rfl ZG))))
end
def zot (F:Nat):Ent:=ent 1000000013 (fun (x:(GR×Unit))=>wu F x.1) (fun (r:((NL Int)×Bool))=>(.tup [zu .sh (r.1:NL Int),Enc.enc (r.2:Bool)])) 1 false []
abbrev zrj (D:List V→Option V) (F:Nat):Prop:=∀ (x0:GR) r,wu F x0=some r→D [Enc.enc x0]=some (.tup [zu .sh (r.1:NL Int),Enc.enc (r.2:Bool)])
theorem zwJ {F:Nat}:zrj (zot F).den F:=fun x0 _ h=>zU (x0,()) h
theorem zxZ (hF:zG Try.prog D σ) (H:ztO D σ F):(zot F).Ok Try.prog:=okZ (f:=13) Try.func13 fun ⟨x0,_⟩ y hy=>cR hF Try.func13 c13o (zw7 H x0 _ rfl hy)
def zuv:AC:=(.cond (.t 8) .skip (.exit 0))
def zqE:AC:=(rr [jm 9 4,jv 10 (.bin .add (.t 9) (jn 1)),jm 4 10])
def zrC:AC:=(.seq (.block 1 (.reg [.clr [13,14]] [jm 11 3,jm 12 4,jx 13 (.lit i0 1 [(0,0,.t 12)]),jx 14 (.app .s (.t 11) (.t 13)),jm 3 14] [.home 14 3])) zqE)
def zjN:AC:=(.seq (.seq (rr [jm 6 4,jm 7 0,jv 8 (.bin .lss (.t 6) (.t 7))]) zuv) zrC)
def zmN:AC:=(.seq (.reg [] [jm 15 3,jm 2 15] [.home 3 2]) .ret)
def zrN:AC:=(.block 0 (.loop zjN))
def zuE:AC:=(.seq (.seq (rr [jv 4 (.mov (jn 0))]) zrN) zmN)
def zq2:AC:=(.seq (.reg [.clr [5]] [jx 5 (.lit i0 0 []),jm 3 5] [.home 5 3]) zuE)
def A25:AC:=(.seq (rr [jv 2 (.mov (.k (.sl .nl .s 0 [])))]) zq2)
def zvX:List An:=[⟨1,[.clr [5]],[],[],[.home 5 3]⟩,⟨5,[.clr [13,14]],[],[],[.home 14 3]⟩,⟨6,[],[],[],[.home 3 2]⟩]
theorem c25:cq Try.prog Try.f25 zvX=some A25:=by kernel_rfl
structure H25 (D:Den) (σ:Sig) (F:Nat):Prop where
 mk ::
abbrev R25 (r:LI):(Nat→V)→Prop:=RR Try.prog [.tmp 2] 0 false (eL r)
section
variable {r:LI}
def vG (F:Nat) (x1:Int) :Nat→LI→Int→Option LI
 | 0,_,_=>none
 | k + 1,x3,x4=>
   bif decide (x4 < x1) then
    (uQ x3 [x4]).bind fun ap6=>
    (vG F x1 k) ap6 (w64 (x4 + 1))
   else
    some x3
theorem zio (H:H25 D σ F) (x1:Int) :∀ (k:Nat) (x3:LI) (x4:Int) (s:Nat→V),zr [(0,ji x1),(2,nI),(3,oI 3 [] (.of x3)),(4,ji x4)] s→vG F x1 k x3 x4=some r→Run D σ (R25 r) (.run zjN [.lp zjN,.bk 0,.sq zmN]) s:=by
 intro k
 induction k with
 | zero=>intro x3 x4 s _ h;exact nm h
 | succ k ih=>
   intro x3 x4 s hs h
   rw [vG] at h
   obtain ⟨h0,h2,h3,h4⟩:=hs
   refine .seq (.seq (rg (gm h4 fun h6=>gm h0 fun h7=>g2 6 7 (jb (decide (x4 < x1))) h6 h7 fun h8=>gq (.nsq (zn h8 h (fun h=>?_) (fun h=>?_))))))
   · refine .skip (.nsq (.seq (.block (zw (z3 ?_)))))
     refine ez [(0,_),(2,_),(3,_),(4,_),(13,_),(14,_)] ⟨za h0 rfl mi,za h2 rfl rfl,za h3 rfl (zq (r:=3) (p:=[]) rfl rfl),za h4 rfl mi,ze rfl,ze rfl⟩ ?_
     rintro s ⟨h0,h2,h3,h4,h13,h14⟩
     refine gm h3 fun h11=>gm h4 fun h12=>xI [(12,ji x4)] [Enc.enc (x4:Int)] h12 rfl rfl h13 ?_
     obtain ⟨ap6,Eap6,h⟩:=zb h
     refine XR (q:=3) (p:=[]) (o:=.of (x3:LI)) (ys:=([x4]:LI)) (t2:=.at 13 []) (lo2:=0) h11 rfl rfl h14 (Z4 (o:=.of (x3:LI)) Eap6 trivial) (fun s10 ha10=>gm (rf (oI 14 [] (.of ap6))) fun h3=>yS (yu (r:=14) (x:=3) (v:=_) h3 rfl (fun s11 hz11=>?_)))
     refine ez [(0,ji x1),(2,nI),(3,oI 3 [] (.of ap6)),(4,ji x4)] ⟨hz11 0 _ _ (show s10 0=(ji x1) from yh ha10 h0 mi) mi,hz11 2 _ nI (show s10 2=nI from yh ha10 h2 rfl) rfl,hz11 3 _ _ h3 (zq (r:=14) (p:=[]) rfl rfl),hz11 4 _ _ (show s10 4=(ji x4) from yh ha10 h4 mi) mi⟩ ?_
     rintro s ⟨h0,h2,h3,h4⟩
     refine .nbk (.nsq (rg (gm h4 fun h9=>g1 9 (ji (w64 (x4 + 1))) h9 fun h10=>gm h10 fun h4=>gq (.nlp ?_))))
     exact ih ap6 (w64 (x4 + 1)) _ ⟨h0,h2,h3,h4⟩ h
   refine .exit (.esq (.elp (.ebk (.nsq (.seq (rg (gm h3 fun h15=>gm h15 fun h2=>yS (yu (r:=3) (x:=2) (v:=_) h2 rfl (fun s12 hz12=>?_)))))))))
   refine ez [(2,oI 2 [] (.of x3))] (hz12 2 _ _ h2 (zq (r:=3) (p:=[]) rfl rfl)) ?_
   rintro s h2
   refine .nsq (.ret ?_)
   obtain rfl:=oi h
   exact rrA (zo h2) (wY (wy (o:=.of x3)) (xD rfl))
def uY (F:Nat) (x1:Int):Option LI:=
 vG F x1 F [] 0
theorem t25 (H:H25 D σ F) (x1:Int) (s:Nat→V) (hs:zr [(0,ji x1)] s) (h:uY F x1=some r):Run D σ (R25 r) (.run A25 []) s:=by
 unfold uY at h
 have h0:=hs
 refine .seq (rg (g0 nI fun h2=>gq (.nsq (.seq (zw (z3 ?_))))))
 refine ez [(0,_),(2,_),(5,_)] ⟨za h0 rfl mi,za h2 rfl rfl,ze rfl⟩ ?_
 rintro s ⟨h0,h2,h5⟩
 refine xI [] [] trivial rfl rfl h5 (gm (rf (oI 5 [] (.of []))) fun h3=>yS (yu (r:=5) (x:=3) (v:=_) h3 rfl (fun s2 hz2=>?_)))
 refine ez [(0,ji x1),(2,nI),(3,oI 3 [] (.of []))] ⟨hz2 0 _ _ h0 mi,hz2 2 _ _ h2 rfl,hz2 3 _ _ h3 (zq (r:=5) (p:=[]) rfl rfl)⟩ ?_
 rintro s ⟨h0,h2,h3⟩
 refine .nsq (.seq (.seq (rg (g0 (ji 0) fun h4=>gq (.nsq (.block (.loop ?_)))))))
 exact zio H x1 F [] 0 _ ⟨h0,h2,h3,h4⟩ h
end
def e25 (F:Nat):Ent:=ent 25 (fun (x:(Int×Unit))=>uY F x.1) (fun (r:LI)=>(eL r)) 0 false []
abbrev C25 (D:List V→Option V) (F:Nat):Prop:=∀ (x0:Int) r,uY F x0=some r→D [Enc.enc x0]=some (eL r)
theorem p25 {F:Nat}:C25 (e25 F).den F:=fun x0 _ h=>zU (x0,()) h
theorem o25 (hF:zG Try.prog D σ) (H:H25 D σ F):(e25 F).Ok Try.prog:=okZ (f:=25) Try.func25 fun ⟨x0,_⟩ y hy=>cR hF Try.func25 c25 (t25 H x0 _ rfl hy)
def znu:AC:=(.seq (.reg [] [jv 72 (.load (.ag [.s,.p]) (.t 5)),jm 73 6,jz (.store (.ag [.s,.p]) (.t 2) (.t 72)),jm 3 73] [.home 6 3]) .ret)
def zv5:AC:=(.cond (.t 59) .skip (.exit 1))
def zxC:AC:=(rr [jm 60 9,jv 61 (.bin .add (.t 60) (jn 1)),jm 9 61])
def zxy:AC:=(.seq (.block 2 (rr [jm 62 6,jm 63 9,jm 64 9,jv 65 (.bin .sub (.t 64) (jn 1)),jv 66 (.idx (.t 62) (.t 63) 1),jz (.store .s (.t 66) (.t 65))])) zxC)
def zox:AC:=(.seq (.seq (rr [jm 56 9,jm 57 8,jk 58 57,jv 59 (.bin .lss (.t 56) (.t 58))]) zv5) zxy)
def ztG:AC:=(.cond (.t 30) (.seq (rr [jx 31 (.vN (.load (.ag [.s,.p]) (.t 5)) [4]),jm 32 4,jx 33 (.vN (.load (.ag [.s,.p]) (.t 5)) [4]),jx 34 (.callT (jf 23) [.t 32,.t 33] [4] []),jz (.store (.ag [.s,.p]) (.t 2) (.t 31)),jm 3 34]) .ret) .skip)
def zvt:AC:=(.block 1 (.loop zox))
def zuo:AC:=(.seq (rr [jv 9 (.mov (jn 0))]) zvt)
def zvJ:AC:=(.cond (.t 67) (.reg [.clr [70,71]] [jm 69 6,jx 70 (.lit i0 1 [(0,0,jn (-1))]),jx 71 (.app .s (.t 69) (.t 70)),jm 6 71] [.home 71 6]) .skip)
def ztJ:AC:=(.cond (.t 51) (.seq (rr [jv 53 (.fld (.t 5) 0 0),jl 54 53,jx 55 (.call (jf 25) [.t 54]),jm 8 55]) zuo) (.seq (rr [jv 68 (.bin .eql (.t 36) (jn 2)),jm 67 68]) zvJ))
def zxt:AC:=(.cond (.t 37) (rr [jm 39 6,jm 40 4,jm 41 6,jx 42 (.vN (.len (.t 41)) [4]),jx 43 (.callT (jf 24) [.t 40,.t 42] [4] []),jm 44 4,jx 45 (.vN (.fld (.t 5) 0 0) [4]),jx 46 (.vN (.load .s (.t 45)) [4]),jx 47 (.vN (.bin .add (.t 46) (jn 1)) [4]),jx 48 (.callT (jf 24) [.t 44,.t 47] [4] []),jv 49 (.bin .sub (.t 48) (jn 1)),jv 50 (.idx (.t 39) (.t 43) 1),jz (.store .s (.t 50) (.t 49))]) (.seq (rr [jv 52 (.bin .eql (.t 36) (jn 1)),jm 51 52]) ztJ))
def zv7:AC:=(.block 0 (.seq (rr [jv 38 (.bin .eql (.t 36) (jn 0)),jm 37 38]) zxt))
def zvc:AC:=(.seq (.seq (rr [jm 35 4,jx 36 (.callT (jf 24) [.t 35,jn 5] [4] [])]) zv7) znu)
def zrT:AC:=(.seq (.seq (rr [jm 20 7,jv 21 (.un .not (.t 20)),jm 22 21,jg 23 22 false (.mov (.t 6)),jg 24 22 false (.len (.t 23)),jg 25 22 false (.bin .eql (.t 24) (jn 0)),jv 26 (.pick (.t 22) kt (.t 25)),jm 27 26,jg 28 27 false (.mov (.t 4)),.mk (some 29) (some (27,false)) false (.callT (jf 22) [.t 28,jn 8] [4] []),jv 30 (.pick (.t 27) kt (.t 29))]) ztG) zvc)
def ztU:AC:=(.seq (.reg [.clr [17]] [jv 16 (.load (.ag [.s,.p]) (.t 5)),jx 17 (.callO (jf 13) [.t 16]),jm 15 17,jv 18 (.ext (.t 15) 0),jv 19 (.extS (.t 15) 1),jm 6 18,jm 7 19] [.ren 6 17 [0]]) zrT)
def zso:AC:=(.seq (.reg [.clr [5]] [jm 13 4,jx 14 (.callT (jf 21) [.t 13] [4] []),jx 5 (.alloc (.agg [i0,.sl .nl (.ag [.s,.s]) 0 []])),jz (.store (.ag [.s,.p]) (.t 5) (.t 14))] []) ztU)
def zun:AC:=(.seq (.reg [.clr [12]] [jm 10 0,jv 11 (.bld (.agg [.sl .nl .s 0 [],i0,.int .u64 (.ofNat 0)]) [(0,0,.t 10)]),jx 12 (.box (.t 11)),jm 4 12] []) zso)
def A5:AC:=(.seq (.reg [.clr [2]] [jx 2 (.alloc (.agg [i0,.sl .nl (.ag [.s,.s]) 0 []])),jv 3 (.mov (.k (.sl .nl .s 0 [])))] []) zun)
def an5:List An:=[⟨0,[.clr [2]],[],[],[]⟩,⟨1,[.clr [12]],[],[],[]⟩,⟨2,[.clr [5]],[],[2000004],[]⟩,⟨3,[.clr [17]],[],[1001],[.ren 6 17 [0]]⟩,⟨4,[],[],[10000004],[]⟩,⟨5,[],[],[4000004,1000004,3000004],[]⟩,⟨6,[],[],[2000004],[]⟩,⟨8,[],[],[5000004,4000004,10000004,7000004,8000004,9000004],[]⟩,⟨16,[.clr [70,71]],[],[],[.home 71 6]⟩,⟨17,[],[],[],[.home 6 3]⟩]
theorem c5:cq Try.prog Try.f5 an5=some A5:=by kernel_rfl
structure H5 (D:Den) (σ:Sig) (F:Nat):Prop where
 c21:C21 (D 21) F
 g21:σ 21=some (uA,false)
 c13o:zrj (D 1000000013) F
 g13o:σ 1000000013=some (1,false)
 c22:C22 (D 22) F
 g22:σ 22=some (uA,false)
 c23:C23 (D 23) F
 g23:σ 23=some (uA,false)
 c24:C24 (D 24) F
 g24:σ 24=some (uA,false)
 c25:C25 (D 25) F
 g25:σ 25=some (0,false)
abbrev R5 (r:(GR×LI)):(Nat→V)→Prop:=RR Try.prog [.cell 2 26,.tmp 3] 0 true (.tup [Enc.enc (r.1:GR),eL r.2])
section
variable {r:(GR×LI)}
def xP (F:Nat) (r2:(GR×CU))  (x22:(NL Int)):Option (GR×LI):=
 some (r2.1,x22.list)
theorem MU (H:H5 D σ F) (r2:(GR×CU))  (x22:(NL Int)) (s:Nat→V) (hs:zr [(2,bZ 2),(3,nI),(5,bG 5 r2.1),(6,oI 6 [] x22)] s) (h:xP F r2  x22=some r):Run D σ (R5 r) (.nrm [.bk 0,.sq znu]) s:=by
 unfold xP at h
 obtain ⟨h2,h3,h5,h6⟩:=hs
 refine .nbk (.nsq (.seq (rg (g1 5 (gV r2.1) h5 fun h72=>gv (oI 6 [] x22) (wn h6 yU) fun h73=>ye (gV r2.1) (zF h2 rfl) (zF h72 rfl) (xN (by first | rfl | simp [V.toks,V.tokss,Enc.toks_enc,yd])) (gv (oI 6 [] x22) (wn (zd h73 (wH rfl rfl)) yU) fun h3=>yS (yu (r:=6) (x:=3) (v:=_) h3 yU (fun s16 hz16=>?_)))))))
 refine ez [(2,bG 2 r2.1),(3,oI 3 [] x22)] ⟨hz16 2 _ _ (zd h2 rfl) (zj rfl mIE),hz16 3 _ _ h3 (zq (r:=6) (p:=[]) rfl rfl)⟩ ?_
 rintro s ⟨h2,h3⟩
 refine .nsq (.ret ?_)
 obtain rfl:=oi h
 exact rrB (v7 h2 (by kernel_rfl)) (zo h3) (ue (Y9 (xd (w6 (x:=(r2.1:GR))) (xd (wy (o:=x22)) Zr))))
def wl (F:Nat) (r2:(GR×CU)) (r26:LI) :Nat→(NL Int)→Int→Option (GR×LI)
 | 0,_,_=>none
 | k + 1,x28,x29=>
   bif decide (x29 < (r26.length:Int)) then
    (idx x28.list x29).bind fun v31=>
    (wl F r2 r26 k) (NL.set x28 x29.toNat (w64 (x29 - 1))) (w64 (x29 + 1))
   else
    xP F r2 x28
theorem zlY (H:H5 D σ F) (r2:(GR×CU)) (r26:LI) :∀ (k:Nat) (x28:(NL Int)) (x29:Int) (s:Nat→V),zr [(2,bZ 2),(3,nI),(5,bG 5 r2.1),(6,oI 6 [] x28),(8,eL r26),(9,ji x29)] s→wl F r2 r26 k x28 x29=some r→Run D σ (R5 r) (.run zox [.lp zox,.bk 1,.bk 0,.sq znu]) s:=by
 intro k
 induction k with
 | zero=>intro x28 x29 s _ h;exact nm h
 | succ k ih=>
   intro x28 x29 s hs h
   rw [wl] at h
   obtain ⟨h2,h3,h5,h6,h8,h9⟩:=hs
   refine .seq (.seq (rg (gm h9 fun h56=>gm h8 fun h57=>gl r26 h57 fun h58=>g2 56 58 (jb (decide (x29 < (r26.length:Int)))) h56 h58 fun h59=>gq (.nsq (zn h59 h (fun h=>?_) (fun h=>?_))))))
   · refine .skip (.nsq (.seq (.block (rg (gv (oI 6 [] x28) (wn h6 yU) fun h62=>gm h9 fun h63=>gm h9 fun h64=>g1 64 (ji (w64 (x29 - 1))) h64 fun h65=>?_)))))
     obtain ⟨v31,Ev31,h⟩:=zb h
     refine gv (.ref (.at 6 []) x29.toNat [] (ji v31)) (xq (o:=x28) h62 h63 Ev31 rfl) fun h66=>ye (ji (w64 (x29 - 1))) (zF h66 rfl) (zF h65 rfl) (xN (by first | rfl | simp [V.toks,V.tokss,Enc.toks_enc,yd])) (gz [(2,bZ 2),(3,nI),(5,bG 5 r2.1),(6,_),(8,eL r26),(9,ji x29)] ⟨zd h2 (zH rfl rfl (yL (zy rfl (zy rfl rfl)))),zd h3 rfl,zd h5 (zH rfl rfl uIE),zd h6 (Lt (α:=Int) (u:=w64 (x29 - 1)) (i:=x29.toNat) (o:=x28)),zd h8 uE,zd h9 rfl⟩ ?_)
     rintro s ⟨h2,h3,h5,h6,h8,h9⟩
     refine .nbk (.nsq (rg (gm h9 fun h60=>g1 60 (ji (w64 (x29 + 1))) h60 fun h61=>gm h61 fun h9=>gq (.nlp ?_))))
     exact ih (NL.set x28 x29.toNat (w64 (x29 - 1))) (w64 (x29 + 1)) _ ⟨h2,h3,h5,h6,h8,h9⟩ h
   refine .exit (.esq (.elp (.ebk ?_)))
   exact MU H r2 x28 _ ⟨h2,h3,h5,h6⟩ h
def yZ (F:Nat) (r2:(GR×CU)) (r3:((NL Int)×Bool))  (x5:LB) (x6:Int) (x7:Int) (x8:Bool):Option (GR×LI):=
 bif x8 then
  (uH F (cu x5 x6 x7) r2.1).bind fun r10=>
  some (r2.1,r10.1)
 else
  (yc F (cu x5 x6 x7) 5).bind fun r11=>
  bif (r11.1 == 0) then
   (yc F (Cu.mk r11.2) (r3.1.list.length:Int)).bind fun r23=>
   (yc F (Cu.mk r23.2) (w64 (r2.1.1 + 1))).bind fun r24=>
   (idx r3.1.list r23.1).bind fun v25=>
   xP F r2 (NL.set r3.1 r23.1.toNat (w64 (r24.1 - 1)))
  else
   bif (r11.1 == 1) then
    (uY F r2.1.1).bind fun r26=>
    wl F r2 r26 F r3.1 0
   else
    bif (r11.1 == 2) then
     (uQ r3.1.list [(-1)]).bind fun ap32=>
     xP F r2 (.of ap32)
    else
     xP F r2 r3.1
theorem zbs (H:H5 D σ F) (r2:(GR×CU)) (r3:((NL Int)×Bool))  (x5:LB) (x6:Int) (x7:Int) (x8:Bool) (s:Nat→V) (hs:zr [(2,bZ 2),(3,nI),(4,.ref (.bx 12) 0 [] (.agg [eB x5,ji x6,.int .u64 x7])),(5,bG 5 r2.1),(6,oI 6 [] r3.1),(30,jb x8)] s) (h:yZ F r2 r3  x5 x6 x7 x8=some r):Run D σ (R5 r) (.nrm [.sq ztG,.sq zvc]) s:=by
 unfold yZ at h
 obtain ⟨h2,h3,h4,h5,h6,h30⟩:=hs
 refine .nsq (zn h30 h (fun h=>?_) (fun h=>?_))
 · refine .seq (rg (U4 (r:=12) (b:=4) (x:=((S3.mk x5 x6 (Kd.mk x7:Kd .u64)):CU)) (gV r2.1) h4 (uB [(5,bG 5 r2.1)] h5 rfl rfl) [(5,bG 5 r2.1)] h5 rfl (by simp [V.live,V.lives,xH,V.toks,V.tokss,z6,Enc.toks_enc,zD,wZ]) (by simp [V.toks,V.tokss,z6,Enc.toks_enc,zD,wZ]) (gm h4 fun h32=>U4 (r:=12) (b:=4) (x:=((S3.mk x5 x6 (Kd.mk x7:Kd .u64)):CU)) (gV r2.1) h4 (uB [(5,bG 5 r2.1)] h5 rfl rfl) [(5,bG 5 r2.1)] h5 rfl (by simp [V.live,V.lives,xH,V.toks,V.tokss,z6,Enc.toks_enc,zD,wZ]) (by simp [V.toks,V.tokss,z6,Enc.toks_enc,zD,wZ]) ?_)))
   obtain ⟨r10,Er10,h⟩:=zb h
   refine vM (r:=12) (b:=4) (x:=((S3.mk x5 x6 (Kd.mk x7:Kd .u64)):CU)) (x':=r10.2) (vs:=[Enc.enc (r2.1:GR)]) (res:=eL r10.1) h4 (by exact (zJ (v:=cuV 12 ((S3.mk x5 x6 (Kd.mk x7:Kd .u64)):CU)) h32 rfl (zJ (v:=Enc.enc (r2.1:GR)) rfl rfl yw))) (yg te yr) fm1 (H.c23 _ _ _ Er10) H.g23 te rfl (fun s9 hb9 ha9=>ye (gV r2.1) (zF (show s9 2=(bZ 2) from ha9 2 _ _ h2 rfl (zj rfl (mIx rfl))) rfl) (zF (show s9 31=(gV r2.1) from ha9 31 (gV r2.1) _ rfl rfl mIE) rfl) (xN (by first | rfl | simp [V.toks,V.tokss,Enc.toks_enc,yd])) (gm (zd rfl uE) fun h3=>?_))
   refine gz [(2,bG 2 r2.1),(3,_),(4,.ref (.bx 12) 0 [] (cV r10.2)),(5,bG 5 r2.1),(6,oI 6 [] r3.1)] ⟨zd (show s9 2=(bZ 2) from ha9 2 _ _ h2 rfl (zj rfl (mIx rfl))) rfl,h3,zd (show s9 4=(.ref (.bx 12) 0 [] (cV r10.2)) from hb9 4 h4) (zH rfl rfl Jg),zd (show s9 5=(bG 5 r2.1) from ha9 5 _ _ h5 rfl (zj rfl mIE)) (zH rfl rfl uIE),zd (show s9 6=(oI 6 [] r3.1) from ha9 6 _ _ h6 Jm (zq (r:=6) (p:=[]) rfl rfl)) (wH rfl rfl)⟩ ?_
   rintro s ⟨h2,h3,h4,h5,h6⟩
   refine .nsq (.ret ?_)
   obtain rfl:=oi h
   exact rrB (v7 h2 (by kernel_rfl)) (zo h3) (ue (Y9 (xd (w6 (x:=(r2.1:GR))) (xd (w6 (x:=(r10.1:LI))) Zr))))
 refine .skip (.nsq (.seq (.seq (rg (gm h4 fun h35=>?_)))))
 obtain ⟨r11,Er11,h⟩:=zb h
 refine vM (r:=12) (b:=4) (x:=((S3.mk x5 x6 (Kd.mk x7:Kd .u64)):CU)) (x':=r11.2) (vs:=[Enc.enc (5:Int)]) (res:=Enc.enc (r11.1:Int)) h4 (by exact (zJ (v:=cuV 12 ((S3.mk x5 x6 (Kd.mk x7:Kd .u64)):CU)) h35 rfl (zJ (v:=Enc.enc (5:Int)) rfl rfl yw))) (yg te yr) fm1 (H.c24 _ _ _ Er11) H.g24 te rfl (fun s10 hb10 ha10=>?_)
 refine gz [(2,bZ 2),(3,nI),(4,_),(5,bG 5 r2.1),(6,oI 6 [] r3.1),(36,ji r11.1)] ⟨(show s10 2=(bZ 2) from ha10 2 _ _ h2 rfl (zj rfl (mIx rfl))),(show s10 3=nI from ha10 3 _ _ h3 rfl rfl),(show s10 4=(.ref (.bx 12) 0 [] (cV r11.2)) from hb10 4 h4),(show s10 5=(bG 5 r2.1) from ha10 5 _ _ h5 rfl (zj rfl mIE)),(show s10 6=(oI 6 [] r3.1) from ha10 6 _ _ h6 Jm (zq (r:=6) (p:=[]) rfl rfl)),rfl⟩ ?_
 rintro s ⟨h2,h3,h4,h5,h6,h36⟩
 refine .nsq (.block (.seq (rg (g1 36 (jb (r11.1 == 0)) h36 fun h38=>gm h38 fun h37=>gq (.nsq (zn h37 h (fun h=>?_) (fun h=>?_)))))))
 · refine rg (gv (oI 6 [] r3.1) (wn h6 yU) fun h39=>gm h4 fun h40=>gv (oI 6 [] r3.1) (wn h6 yU) fun h41=>U4 (r:=12) (b:=4) (x:=r11.2) (ji (r3.1.list.length:Int)) h4 (Uk (o:=r3.1) h41) [(41,oI 6 [] r3.1)] h41 rfl (by simp [V.live,V.lives,xH,Zz (α:=Int) (fun _=>rfl),V.toks,V.tokss,z6,Ys,Enc.toks_enc,zD,wZ]) (by simp [V.toks,V.tokss,z6,Enc.toks_enc,zD,wZ]) ?_)
   obtain ⟨r23,Er23,h⟩:=zb h
   refine vM (r:=12) (b:=4) (x:=r11.2) (x':=r23.2) (vs:=[Enc.enc ((r3.1.list.length:Int):Int)]) (res:=Enc.enc (r23.1:Int)) h4 (by exact (zJ (v:=cuV 12 r11.2) h40 rfl (zJ (v:=Enc.enc ((r3.1.list.length:Int):Int)) rfl rfl yw))) (yg te yr) fm1 (H.c24 _ _ _ Er23) H.g24 te rfl (fun s17 hb17 ha17=>gm (show s17 4=(.ref (.bx 12) 0 [] (cV r23.2)) from hb17 4 h4) fun h44=>?_)
   refine U4 (r:=12) (b:=4) (x:=r23.2) (.ref (.bx 5) 0 [0] (ji r2.1.1)) (show s17 4=(.ref (.bx 12) 0 [] (cV r23.2)) from hb17 4 h4) (uB [(5,bG 5 r2.1)] (show s17 5=(bG 5 r2.1) from ha17 5 _ _ h5 rfl (zj rfl mIE)) rfl rfl) [(5,bG 5 r2.1)] (show s17 5=(bG 5 r2.1) from ha17 5 _ _ h5 rfl (zj rfl mIE)) rfl (by simp [V.live,V.lives,xH,V.toks,V.tokss,z6,Enc.toks_enc,zD,wZ]) (by simp [V.toks,V.tokss,z6,Enc.toks_enc,zD,wZ]) ?_
   refine U4 (r:=12) (b:=4) (x:=r23.2) (ji r2.1.1) (show s17 4=(.ref (.bx 12) 0 [] (cV r23.2)) from hb17 4 h4) (uB [(45,.ref (.bx 5) 0 [0] (ji r2.1.1))] rfl rfl rfl) [(45,.ref (.bx 5) 0 [0] (ji r2.1.1))] rfl rfl (by simp [V.live,V.lives,xH,V.toks,V.tokss,z6,Enc.toks_enc,zD,wZ]) (by simp [V.toks,V.tokss,z6,Enc.toks_enc,zD,wZ]) ?_
   refine U4 (r:=12) (b:=4) (x:=r23.2) (ji (w64 (r2.1.1 + 1))) (show s17 4=(.ref (.bx 12) 0 [] (cV r23.2)) from hb17 4 h4) (uB [(46,ji r2.1.1)] rfl rfl rfl) [(46,ji r2.1.1)] rfl rfl (by simp [V.live,V.lives,xH,V.toks,V.tokss,z6,Enc.toks_enc,zD,wZ]) (by simp [V.toks,V.tokss,z6,Enc.toks_enc,zD,wZ]) ?_
   obtain ⟨r24,Er24,h⟩:=zb h
   refine vM (r:=12) (b:=4) (x:=r23.2) (x':=r24.2) (vs:=[Enc.enc (w64 (r2.1.1 + 1):Int)]) (res:=Enc.enc (r24.1:Int)) (show s17 4=(.ref (.bx 12) 0 [] (cV r23.2)) from hb17 4 h4) (by exact (zJ (v:=cuV 12 r23.2) h44 rfl (zJ (v:=Enc.enc (w64 (r2.1.1 + 1):Int)) rfl rfl yw))) (yg te yr) fm1 (H.c24 _ _ _ Er24) H.g24 te rfl (fun s18 hb18 ha18=>g1 48 (ji (w64 (r24.1 - 1))) (rf (ji r24.1)) fun h49=>?_)
   obtain ⟨v25,Ev25,h⟩:=zb h
   refine gv (.ref (.at 6 []) r23.1.toNat [] (ji v25)) (xq (o:=r3.1) (show s18 39=(oI 6 [] r3.1) from ha18 39 (oI 6 [] r3.1) _ (show s17 39=(oI 6 [] r3.1) from ha17 39 _ _ h39 Jm (zq (r:=6) (p:=[]) rfl rfl)) Jm (zq (r:=6) (p:=[]) rfl rfl)) (show s18 43=(ji r23.1) from ha18 43 (ji r23.1) _ rfl rfl mi) Ev25 rfl) fun h50=>ye (ji (w64 (r24.1 - 1))) (zF h50 rfl) (zF h49 rfl) (xN (by first | rfl | simp [V.toks,V.tokss,Enc.toks_enc,yd])) ?_
   refine gz [(2,bZ 2),(3,nI),(5,bG 5 r2.1),(6,oI 6 [] (NL.set r3.1 r23.1.toNat (w64 (r24.1 - 1))))] ⟨zd (show s18 2=(bZ 2) from ha18 2 (bZ 2) _ (show s17 2=(bZ 2) from ha17 2 _ _ h2 rfl (zj rfl (mIx rfl))) rfl (zj rfl (mIx rfl))) (zH rfl rfl (yL (zy rfl (zy rfl rfl)))),zd (show s18 3=nI from ha18 3 nI _ (show s17 3=nI from ha17 3 _ _ h3 rfl rfl) rfl rfl) rfl,zd (show s18 5=(bG 5 r2.1) from ha18 5 (bG 5 r2.1) _ (show s17 5=(bG 5 r2.1) from ha17 5 _ _ h5 rfl (zj rfl mIE)) rfl (zj rfl mIE)) (zH rfl rfl uIE),zd (show s18 6=(oI 6 [] r3.1) from ha18 6 (oI 6 [] r3.1) _ (show s17 6=(oI 6 [] r3.1) from ha17 6 _ _ h6 Jm (zq (r:=6) (p:=[]) rfl rfl)) Jm (zq (r:=6) (p:=[]) rfl rfl)) (Lt (α:=Int) (u:=w64 (r24.1 - 1)) (i:=r23.1.toNat) (o:=r3.1))⟩ ?_
   rintro s ⟨h2,h3,h5,h6⟩
   exact MU H r2 (NL.set r3.1 r23.1.toNat (w64 (r24.1 - 1))) _ ⟨h2,h3,h5,h6⟩ h
 refine .seq (rg (g1 36 (jb (r11.1 == 1)) h36 fun h52=>gm h52 fun h51=>gq (.nsq (zn h51 h (fun h=>?_) (fun h=>?_)))))
 · refine .seq (rg (g1 5 (.ref (.bx 5) 0 [0] (ji r2.1.1)) h5 fun h53=>g1 53 (ji r2.1.1) h53 fun h54=>?_))
   obtain ⟨r26,Er26,h⟩:=zb h
   refine gcF [Enc.enc (r2.1.1:Int)] (zf h54 rfl rfl zA) (H.c25 _ _ Er26) H.g25 (gm (rf (eL r26)) fun h8=>gq (.nsq (.seq (rg (g0 (ji 0) fun h9=>gq (.nsq (.block (.loop ?_))))))))
   exact zlY H r2 r26 F r3.1 0 _ ⟨h2,h3,h5,h6,h8,h9⟩ h
 refine .seq (rg (g1 36 (jb (r11.1 == 2)) h36 fun h68=>gm h68 fun h67=>gq (.nsq (zn h67 h (fun h=>?_) (fun h=>?_)))))
 · refine zw (z3 ?_)
   refine ez [(2,_),(3,_),(5,_),(6,_),(70,_),(71,_)] ⟨za h2 rfl (zj rfl (mIx rfl)),za h3 rfl rfl,za h5 rfl (zj rfl mIE),za h6 rfl (zq (r:=6) (p:=[]) rfl rfl),ze rfl,ze rfl⟩ ?_
   rintro s ⟨h2,h3,h5,h6,h70,h71⟩
   refine gv (oI 6 [] r3.1) (wn h6 yU) fun h69=>xI [] [Enc.enc ((-1):Int)] trivial rfl rfl h70 ?_
   obtain ⟨ap32,Eap32,h⟩:=zb h
   refine XR (q:=6) (p:=[]) (o:=(r3.1:NL Int)) (ys:=([(-1)]:LI)) (t2:=.at 70 []) (lo2:=0) h69 rfl rfl h71 (Z4 (o:=(r3.1:NL Int)) Eap32 (by split <;> simp)) (fun s20 ha20=>gm (rf (oI 71 [] (.of ap32))) fun h6=>yS (yu (r:=71) (x:=6) (v:=_) h6 rfl (fun s21 hz21=>?_)))
   refine ez [(2,bZ 2),(3,nI),(5,bG 5 r2.1),(6,oI 6 [] (.of ap32))] ⟨hz21 2 _ _ (show s20 2=(bZ 2) from yh ha20 h2 (zj rfl (mIx rfl))) (zj rfl (mIx rfl)),hz21 3 _ nI (show s20 3=nI from yh ha20 h3 rfl) rfl,hz21 5 _ _ (show s20 5=(bG 5 r2.1) from yh ha20 h5 (zj rfl mIE)) (zj rfl mIE),hz21 6 _ _ h6 (zq (r:=71) (p:=[]) rfl rfl)⟩ ?_
   rintro s ⟨h2,h3,h5,h6⟩
   exact MU H r2 (.of ap32) _ ⟨h2,h3,h5,h6⟩ h
 refine .skip ?_
 exact MU H r2 r3.1 _ ⟨h2,h3,h5,h6⟩ h
def vE (F:Nat) (x1:LB):Option (GR×LI):=
 (vu F (cu x1 0 0)).bind fun r2=>
 (wu F r2.1).bind fun r3=>
 bif (!r3.2) then
  yZ F r2 r3 r2.2.a r2.2.b r2.2.c.v true
 else
  bif ((r3.1.list.length:Int) == 0) then
   yZ F r2 r3 r2.2.a r2.2.b r2.2.c.v true
  else
   (xO F (Cu.mk r2.2) 8).bind fun r33=>
   yZ F r2 r3 r33.2.a r33.2.b r33.2.c.v r33.1
theorem t5 (H:H5 D σ F) (x1:LB) (s:Nat→V) (hs:zr [(0,eB x1)] s) (h:vE F x1=some r):Run D σ (R5 r) (.run A5 []) s:=by
 unfold vE at h
 have h0:=hs
 refine .seq (zw (z3 ?_))
 refine ez [(0,_),(2,_)] ⟨za h0 rfl me,ze rfl⟩ ?_
 rintro s ⟨h0,h2⟩
 refine xA h2 (g0 nI fun h3=>gq (.nsq (.seq (zw (z3 ?_)))))
 refine ez [(0,_),(2,_),(3,_),(12,_)] ⟨za h0 rfl me,za rfl rfl (zj rfl (mIx rfl)),za h3 rfl rfl,ze rfl⟩ ?_
 rintro s ⟨h0,h2,h3,h12⟩
 refine gm h0 fun h10=>g1 10 (.agg [eB x1,ji 0,.int .u64 0]) h10 fun h11=>xo (.agg [eB x1,ji 0,.int .u64 0]) (zF h11 rfl) h12 rfl (gm (rf (.ref (.bx 12) 0 [] (.agg [eB x1,ji 0,.int .u64 0]))) fun h4=>gq (.nsq (.seq (zw (z3 ?_)))))
 refine ez [(2,_),(3,_),(4,_),(5,_)] ⟨za h2 rfl (zj rfl (mIx rfl)),za h3 rfl rfl,za h4 rfl (zj rfl Zh),ze rfl⟩ ?_
 rintro s ⟨h2,h3,h4,h5⟩
 refine gm h4 fun h13=>?_
 obtain ⟨r2,Er2,h⟩:=zb h
 refine vM (r:=12) (b:=4) (x:=((S3.mk x1 0 (Kd.mk 0:Kd .u64)):CU)) (x':=r2.2) (vs:=[]) (res:=Enc.enc (r2.1:GR)) h4 (by exact (zJ (v:=cuV 12 ((S3.mk x1 0 (Kd.mk 0:Kd .u64)):CU)) h13 rfl yw)) yr (fun f=>zB) (H.c21 _ _ Er2) H.g21 te rfl (fun s4 hb4 ha4=>xA (show s4 5 = .gone from ha4 5 _ _ h5 rfl rfl) (ye (gV r2.1) (zF rfl rfl) (zF rfl rfl) (xN (by first | rfl | simp [V.toks,V.tokss,Enc.toks_enc,yd])) ?_))
 refine gz [(2,bZ 2),(3,nI),(4,.ref (.bx 12) 0 [] (cV r2.2)),(5,bG 5 r2.1)] ⟨zd (show s4 2=(bZ 2) from ha4 2 _ _ h2 rfl (zj rfl (mIx rfl))) (zH rfl rfl (yL (zy rfl (zy rfl rfl)))),zd (show s4 3=nI from ha4 3 _ _ h3 rfl rfl) rfl,zd (show s4 4=(.ref (.bx 12) 0 [] (cV r2.2)) from hb4 4 h4) (zH rfl rfl Jg),zd rfl rfl⟩ ?_
 rintro s ⟨h2,h3,h4,h5⟩
 refine .nsq (.seq (zw (z3 ?_)))
 refine ez [(2,_),(3,_),(4,_),(5,_),(17,_)] ⟨za h2 rfl (zj rfl (mIx rfl)),za h3 rfl rfl,za h4 rfl (zj rfl Zh),za h5 rfl (zj rfl mIE),ze rfl⟩ ?_
 rintro s ⟨h2,h3,h4,h5,h17⟩
 refine g1 5 (gV r2.1) h5 fun h16=>?_
 obtain ⟨r3,Er3,h⟩:=zb h
 refine ZM (m:=1) (al:=false) (r:=.tup [zu .sh (r3.1:NL Int),Enc.enc (r3.2:Bool)]) (v:=.tup [oI 17 [0] r3.1,jb r3.2]) (kk:=1000000013) [Enc.enc (r2.1:GR)] (zf h16 rfl (Enc.erase_enc (r2.1:GR)) zA) (H.c13o _ _ Er3) H.g13o rfl (ziV (yg ve (yg rfl yr))) (zlT (ZE uc (ZE rfl JN))) rfl h17 (gm (rf (.tup [oI 17 [0] r3.1,jb r3.2])) fun h15=>gv (oI 17 [0] r3.1) (zlB (v:=oI 17 [0] r3.1) h15 rfl vK) fun h18=>g1 15 (jb r3.2) h15 fun h19=>gv (oI 17 [0] r3.1) (wn h18 yU) fun h6=>gm h19 fun h7=>yS ?_)
 refine zfU (x:=6) (q:=17) (p:=[0]) (v:=oI 17 [0] r3.1) (by exact h6) yU (fun s6 hz6=>?_)
 refine ez [(2,bZ 2),(3,nI),(4,.ref (.bx 12) 0 [] (cV r2.2)),(5,bG 5 r2.1),(6,oI 6 [] r3.1),(7,jb r3.2)] ⟨hz6 2 _ _ h2 (zj rfl (mIx rfl)),hz6 3 _ _ h3 rfl,hz6 4 _ _ h4 (zj rfl Zh),hz6 5 _ _ h5 (zj rfl mIE),hz6 6 _ _ h6 (zq (r:=17) (p:=[0]) rfl rfl),hz6 7 _ _ h7 mb⟩ ?_
 rintro s ⟨h2,h3,h4,h5,h6,h7⟩
 refine .nsq (.seq (.seq (rg (gm h7 fun h20=>g1 20 (jb (!r3.2)) h20 fun h21=>gm h21 fun h22=>z4 h (fun hg3 h=>?_) (fun hg3 h=>?_)))))
 · iterate 3 refine zR (ct h22 hg3) ?_
   refine g2 22 25 (jb true) (ct h22 hg3) (rf (.tup [])) fun h26=>gm h26 fun h27=>zR h27 (zR h27 (g2 27 29 (jb true) h27 (rf (.tup [])) fun h30=>gq ?_))
   exact zbs H r2 r3 r2.2.a r2.2.b r2.2.c.v true _ ⟨h2,h3,h4,h5,h6,h30⟩ h
 refine zm (ct h22 hg3) (gv (oI 6 [] r3.1) (wn h6 yU) fun h23=>zm (ct h22 hg3) (gv (ji (r3.1.list.length:Int)) (Uk (o:=r3.1) h23) fun h24=>zm (ct h22 hg3) (g1 24 (jb ((r3.1.list.length:Int) == 0)) h24 fun h25=>g2 22 25 (jb ((r3.1.list.length:Int) == 0)) (ct h22 hg3) h25 fun h26=>gm h26 fun h27=>z4 h (fun hg8 h=>?_) (fun hg8 h=>?_))))
 · iterate 2 refine zR (ct h27 hg8) ?_
   refine g2 27 29 (jb true) (ct h27 hg8) (rf (.tup [])) fun h30=>gq ?_
   exact zbs H r2 r3 r2.2.a r2.2.b r2.2.c.v true _ ⟨h2,h3,h4,h5,h6,h30⟩ h
 refine zm (ct h27 hg8) (gm h4 fun h28=>?_)
 obtain ⟨r33,Er33,h⟩:=zb h
 refine zm (ct h27 hg8) (vM (r:=12) (b:=4) (x:=r2.2) (x':=r33.2) (vs:=[Enc.enc (8:Int)]) (res:=Enc.enc (r33.1:Bool)) h4 (by exact (zJ (v:=cuV 12 r2.2) h28 rfl (zJ (v:=Enc.enc (8:Int)) rfl rfl yw))) (yg te yr) fm1 (H.c22 _ _ _ Er33) H.g22 te rfl (fun s22 hb22 ha22=>g2 27 29 (jb r33.1) (show s22 27=(jb false) from ha22 27 _ _ (ct h27 hg8) rfl mb) (rf (jb r33.1)) fun h30=>?_))
 refine gz [(2,bZ 2),(3,nI),(4,_),(5,bG 5 r2.1),(6,oI 6 [] r3.1),(30,_)] ⟨(show s22 2=(bZ 2) from ha22 2 _ _ h2 rfl (zj rfl (mIx rfl))),(show s22 3=nI from ha22 3 _ _ h3 rfl rfl),(show s22 4=(.ref (.bx 12) 0 [] (cV r33.2)) from hb22 4 h4),(show s22 5=(bG 5 r2.1) from ha22 5 _ _ h5 rfl (zj rfl mIE)),(show s22 6=(oI 6 [] r3.1) from ha22 6 _ _ h6 Jm (zq (r:=6) (p:=[]) rfl rfl)),h30⟩ ?_
 rintro s ⟨h2,h3,h4,h5,h6,h30⟩
 exact zbs H r2 r3 r33.2.a r33.2.b r33.2.c.v r33.1 _ ⟨h2,h3,h4,h5,h6,h30⟩ h
end
def e5 (F:Nat):Ent:=ent 5 (fun (x:(LB×Unit))=>vE F x.1) (fun (r:(GR×LI))=>(.tup [Enc.enc (r.1:GR),eL r.2])) 0 true []
abbrev C5 (D:List V→Option V) (F:Nat):Prop:=∀ (x0:LB) r,vE F x0=some r→D [Enc.enc x0]=some (.tup [Enc.enc (r.1:GR),eL r.2])
theorem p5 {F:Nat}:C5 (e5 F).den F:=fun x0 _ h=>zU (x0,()) h
theorem o5 (hF:zG Try.prog D σ) (H:H5 D σ F):(e5 F).Ok Try.prog:=okZ (f:=5) Try.func5 fun ⟨x0,_⟩ y hy=>cR hF Try.func5 c5 (t5 H x0 _ rfl hy)
def zpV:AC:=(.seq (rr [jm 7 0,jm 8 1,jv 9 (.bin .geq (.t 7) (.t 8)),jm 10 9,jg 11 10 true (.mov (.t 0)),jg 12 10 true (.mov (.t 2)),jg 13 10 true (.bin .leq (.t 11) (.t 12)),jv 14 (.pick (.t 10) (.t 13) kf),jm 6 14]) .ret)
def A40:AC:=(.seq (rr [jv 6 (.mov kf)]) zpV)
def zxU:List An:=[]
theorem c40:cq Try.prog Try.f40 zxU=some A40:=by kernel_rfl
structure H40 (D:Den) (σ:Sig) (F:Nat):Prop where
 mk ::
abbrev R40 (r:Bool):(Nat→V)→Prop:=RR Try.prog [.tmp 6] 0 false (Enc.enc (r:Bool))
section
variable {r:Bool}
def Yv (F:Nat) (x1:Int) (x2:Int) (x3:Int):Option Bool:=
 bif decide (x1≥x2) then
  some (decide (x1≤x3))
 else
  some false
theorem t40 (H:H40 D σ F) (x1:Int) (x2:Int) (x3:Int) (s:Nat→V) (hs:zr [(0,ji x1),(1,ji x2),(2,ji x3)] s) (h:Yv F x1 x2 x3=some r):Run D σ (R40 r) (.run A40 []) s:=by
 unfold Yv at h
 obtain ⟨h0,h1,h2⟩:=hs
 refine .seq (rg (g0 (jb false) fun h6=>gq (.nsq (.seq (rg (gm h0 fun h7=>gm h1 fun h8=>g2 7 8 (jb (decide (x1≥x2))) h7 h8 fun h9=>gm h9 fun h10=>z4 h (fun hg4 h=>?_) (fun hg4 h=>?_)))))))
 · refine zm (ct h10 hg4) (gm h0 fun h11=>zm (ct h10 hg4) (gm h2 fun h12=>zm (ct h10 hg4) (g2 11 12 (jb (decide (x1≤x3))) h11 h12 fun h13=>g2 10 13 (jb (decide (x1≤x3))) (ct h10 hg4) h13 fun h14=>gm h14 fun h6=>gq (.nsq (.ret ?_)))))
   obtain rfl:=oi h
   exact rrA (zo h6) rfl
 iterate 3 refine zR (ct h10 hg4) ?_
 refine g2 10 13 (jb false) (ct h10 hg4) (rf (.tup [])) fun h14=>gm h14 fun h6=>gq (.nsq (.ret ?_))
 obtain rfl:=oi h
 exact rrA (zo h6) rfl
end
def e40 (F:Nat):Ent:=ent 40 (fun (x:(Int×Int×Int×Unit))=>Yv F x.1 x.2.1 x.2.2.1) (fun (r:Bool)=>(Enc.enc (r:Bool))) 0 false []
abbrev C40 (D:List V→Option V) (F:Nat):Prop:=∀ (x0:Int) (x1:Int) (x2:Int) r,Yv F x0 x1 x2=some r→D [Enc.enc x0,Enc.enc x1,Enc.enc x2]=some (Enc.enc (r:Bool))
theorem p40 {F:Nat}:C40 (e40 F).den F:=fun x0 x1 x2 _ h=>zU (x0,x1,x2,()) h
theorem o40 (hF:zG Try.prog D σ) (H:H40 D σ F):(e40 F).Ok Try.prog:=okZ (f:=40) Try.func40 fun ⟨x0,x1,x2,_⟩ y hy=>cR hF Try.func40 c40 (t40 H x0 x1 x2 _ ⟨rfl,rfl,rfl⟩ hy)
def zsm:AC:=(.seq (rr [jm 3 0,jm 4 0,jv 5 (.bin .neq (.t 3) (.t 4)),jm 2 5]) .ret)
def A83:AC:=(.seq (rr [jv 2 (.mov kf)]) zsm)
def zwk:List An:=[]
theorem c83:cq Try.prog Try.f83 zwk=some A83:=by kernel_rfl
structure H83 (D:Den) (σ:Sig) (F:Nat):Prop where
 mk ::
abbrev R83 (r:Bool):(Nat→V)→Prop:=RR Try.prog [.tmp 2] 0 false (Enc.enc (r:Bool))
section
variable {r:Bool}
def uv (F:Nat) (x1:Int):Option Bool:=
 some (x1 != x1)
theorem t83 (H:H83 D σ F) (x1:Int) (s:Nat→V) (hs:zr [(0,ji x1)] s) (h:uv F x1=some r):Run D σ (R83 r) (.run A83 []) s:=by
 unfold uv at h
 have h0:=hs
 refine .seq (rg (g0 (jb false) fun h2=>gq (.nsq (.seq (rg (gm h0 fun h3=>gm h0 fun h4=>g2 3 4 (jb (x1 != x1)) h3 h4 fun h5=>gm h5 fun h2=>gq (.nsq (.ret ?_))))))))
 obtain rfl:=oi h
 exact rrA (zo h2) rfl
end
def e83 (F:Nat):Ent:=ent 83 (fun (x:(Int×Unit))=>uv F x.1) (fun (r:Bool)=>(Enc.enc (r:Bool))) 0 false []
abbrev C83 (D:List V→Option V) (F:Nat):Prop:=∀ (x0:Int) r,uv F x0=some r→D [Enc.enc x0]=some (Enc.enc (r:Bool))
theorem p83 {F:Nat}:C83 (e83 F).den F:=fun x0 _ h=>zU (x0,()) h
theorem o83 (hF:zG Try.prog D σ) (H:H83 D σ F):(e83 F).Ok Try.prog:=okZ (f:=83) Try.func83 fun ⟨x0,_⟩ y hy=>cR hF Try.func83 c83 (t83 H x0 _ rfl hy)
def zru:AC:=(.cond (.t 12) (.seq (rr [jv 4 (.mov (jn 0))]) .ret) .skip)
def zrW:AC:=(.seq (rr [jv 4 (.mov (jn (-1)))]) .ret)
def zr9:AC:=(.cond (.t 11) (.seq (.seq (rr [jm 12 6]) zru) zrW) .skip)
def zvy:AC:=(.cond (.t 13) (.seq (rr [jv 4 (.mov (jn 1))]) .ret) .skip)
def znn:AC:=(.cond (.t 16) (.seq (rr [jv 4 (.mov (jn (-1)))]) .ret) .skip)
def zoS:AC:=(.cond (.t 19) (.seq (rr [jv 4 (.mov (jn 1))]) .ret) .skip)
def znF:AC:=(.seq (rr [jv 4 (.mov (jn 0))]) .ret)
def zoG:AC:=(.seq (.seq (rr [jm 17 0,jm 18 1,jv 19 (.bin .gtr (.t 17) (.t 18))]) zoS) znF)
def ztx:AC:=(.seq (.seq (rr [jm 14 0,jm 15 1,jv 16 (.bin .lss (.t 14) (.t 15))]) znn) zoG)
def ztT:AC:=(.seq (.seq (rr [jm 13 6]) zvy) ztx)
def zqg:AC:=(.seq (.seq (rr [jm 11 5]) zr9) ztT)
def ztk:AC:=(.seq (rr [jm 9 1,jx 10 (.call (jf 83) [.t 9]),jm 6 10]) zqg)
def zrX:AC:=(.seq (rr [jm 7 0,jx 8 (.call (jf 83) [.t 7]),jm 5 8]) ztk)
def A75:AC:=(.seq (rr [jv 4 (.mov (jn 0))]) zrX)
def zv1:List An:=[]
theorem c75:cq Try.prog Try.f75 zv1=some A75:=by kernel_rfl
structure H75 (D:Den) (σ:Sig) (F:Nat):Prop where
 c83:C83 (D 83) F
 g83:σ 83=some (0,false)
abbrev R75 (r:Int):(Nat→V)→Prop:=RR Try.prog [.tmp 4] 0 false (Enc.enc (r:Int))
section
variable {r:Int}
def vj (F:Nat) (x1:Int) (x2:Int):Option Int:=
 (uv F x1).bind fun r3=>
 (uv F x2).bind fun r4=>
 bif r3 then
  bif r4 then
   some 0
  else
   some (-1)
 else
  bif r4 then
   some 1
  else
   bif decide (x1 < x2) then
    some (-1)
   else
    bif decide (x1 > x2) then
     some 1
    else
     some 0
theorem t75 (H:H75 D σ F) (x1:Int) (x2:Int) (s:Nat→V) (hs:zr [(0,ji x1),(1,ji x2)] s) (h:vj F x1 x2=some r):Run D σ (R75 r) (.run A75 []) s:=by
 unfold vj at h
 obtain ⟨h0,h1⟩:=hs
 refine .seq (rg (g0 (ji 0) fun h4=>gq (.nsq (.seq (rg (gm h0 fun h7=>?_))))))
 obtain ⟨r3,Er3,h⟩:=zb h
 refine gcF [Enc.enc (x1:Int)] (zf h7 rfl rfl zA) (H.c83 _ _ Er3) H.g83 (gm (rf (jb r3)) fun h5=>gq (.nsq (.seq (rg (gm h1 fun h9=>?_)))))
 obtain ⟨r4,Er4,h⟩:=zb h
 refine gcF [Enc.enc (x2:Int)] (zf h9 rfl rfl zA) (H.c83 _ _ Er4) H.g83 (gm (rf (jb r4)) fun h6=>gq (.nsq (.seq (.seq (rg (gm h5 fun h11=>gq (.nsq (zn h11 h (fun h=>?_) (fun h=>?_)))))))))
 · refine .seq (.seq (rg (gm h6 fun h12=>gq (.nsq (zn h12 h (fun h=>?_) (fun h=>?_))))))
   · refine .seq (rg (g0 (ji 0) fun h4=>gq (.nsq (.ret ?_))))
     obtain rfl:=oi h
     exact rrA (zo h4) rfl
   refine .skip (.nsq (.seq (rg (g0 (ji (-1)) fun h4=>gq (.nsq (.ret ?_))))))
   obtain rfl:=oi h
   exact rrA (zo h4) rfl
 refine .skip (.nsq (.seq (.seq (rg (gm h6 fun h13=>gq (.nsq (zn h13 h (fun h=>?_) (fun h=>?_))))))))
 · refine .seq (rg (g0 (ji 1) fun h4=>gq (.nsq (.ret ?_))))
   obtain rfl:=oi h
   exact rrA (zo h4) rfl
 refine .skip (.nsq (.seq (.seq (rg (gm h0 fun h14=>gm h1 fun h15=>g2 14 15 (jb (decide (x1 < x2))) h14 h15 fun h16=>gq (.nsq (zn h16 h (fun h=>?_) (fun h=>?_))))))))
 · refine .seq (rg (g0 (ji (-1)) fun h4=>gq (.nsq (.ret ?_))))
   obtain rfl:=oi h
   exact rrA (zo h4) rfl
 refine .skip (.nsq (.seq (.seq (rg (gm h0 fun h17=>gm h1 fun h18=>g2 17 18 (jb (decide (x1 > x2))) h17 h18 fun h19=>gq (.nsq (zn h19 h (fun h=>?_) (fun h=>?_))))))))
 · refine .seq (rg (g0 (ji 1) fun h4=>gq (.nsq (.ret ?_))))
   obtain rfl:=oi h
   exact rrA (zo h4) rfl
 refine .skip (.nsq (.seq (rg (g0 (ji 0) fun h4=>gq (.nsq (.ret ?_))))))
 obtain rfl:=oi h
 exact rrA (zo h4) rfl
end
def e75 (F:Nat):Ent:=ent 75 (fun (x:(Int×Int×Unit))=>vj F x.1 x.2.1) (fun (r:Int)=>(Enc.enc (r:Int))) 0 false []
abbrev C75 (D:List V→Option V) (F:Nat):Prop:=∀ (x0:Int) (x1:Int) r,vj F x0 x1=some r→D [Enc.enc x0,Enc.enc x1]=some (Enc.enc (r:Int))
theorem p75 {F:Nat}:C75 (e75 F).den F:=fun x0 x1 _ h=>zU (x0,x1,()) h
theorem o75 (hF:zG Try.prog D σ) (H:H75 D σ F):(e75 F).Ok Try.prog:=okZ (f:=75) Try.func75 fun ⟨x0,x1,_⟩ y hy=>cR hF Try.func75 c75 (t75 H x0 x1 _ ⟨rfl,rfl⟩ hy)
def zvp:AC:=(.cond (.t 19) (.seq (rr [jv 4 (.mov (jn 1))]) .ret) .skip)
def zqh:AC:=(.cond (.t 28) (.seq (rr [jm 29 8,jm 4 29]) .ret) .skip)
def zqK:AC:=(.seq (rr [jm 27 8,jv 28 (.bin .neq (.t 27) (jn 0))]) zqh)
def zrg:AC:=(.seq (rr [jm 24 6,jm 25 7,jx 26 (.call (jf 75) [.t 24,.t 25]),jm 8 26]) zqK)
def zql:AC:=(.seq (rr [jm 20 1,jm 21 5,jv 22 (.idx (.t 20) (.t 21) 1),jl 23 22,jm 7 23]) zrg)
def zsC:AC:=(.seq (.seq (rr [jm 16 5,jm 17 1,jk 18 17,jv 19 (.bin .geq (.t 16) (.t 18))]) zvp) zql)
def zok:AC:=(rr [jv 30 (.bin .add (.t 11) (jn 1)),jm 11 30])
def zs7:AC:=(.seq (.block 1 (.seq (rr [jm 13 11,jv 14 (.idx (.t 9) (.t 11) 1),jl 15 14,jm 5 13,jm 6 15]) zsC)) zok)
def zqk:AC:=(.seq (.cond (.t 12) .skip (.exit 0)) zs7)
def zi9:AC:=(.seq (rr [jv 12 (.bin .lss (.t 11) (.t 10))]) zqk)
def znQ:AC:=(.cond (.t 35) (.seq (rr [jv 4 (.mov (jn (-1)))]) .ret) .skip)
def znC:AC:=(.seq (rr [jv 4 (.mov (jn 0))]) .ret)
def zi0:AC:=(.seq (.seq (rr [jm 31 0,jk 32 31,jm 33 1,jk 34 33,jv 35 (.bin .lss (.t 32) (.t 34))]) znQ) znC)
def zo2:AC:=(.block 0 (.loop zi9))
def znZ:AC:=(.seq (.seq (rr [jm 9 0,jk 10 9,jv 11 (.mov (jn 0))]) zo2) zi0)
def A50:AC:=(.seq (rr [jv 4 (.mov (jn 0))]) znZ)
def zxS:List An:=[]
theorem c50:cq Try.prog Try.f50 zxS=some A50:=by kernel_rfl
structure H50 (D:Den) (σ:Sig) (F:Nat):Prop where
 c75:C75 (D 75) F
 g75:σ 75=some (0,false)
abbrev R50 (r:Int):(Nat→V)→Prop:=RR Try.prog [.tmp 4] 0 false (Enc.enc (r:Int))
section
variable {r:Int}
def ui (F:Nat) (x1:LI) (x2:LI) :Nat→Int→Option Int
 | 0,_=>none
 | k + 1,x6=>
   bif decide (x6 < (x1.length:Int)) then
    (idx x1 x6).bind fun v10=>
    bif decide (x6≥(x2.length:Int)) then
     some 1
    else
     (idx x2 x6).bind fun v11=>
     (vj F v10 v11).bind fun r12=>
     bif (r12 != 0) then
      some r12
     else
      (ui F x1 x2 k) (w64 (x6 + 1))
   else
    bif decide ((x1.length:Int) < (x2.length:Int)) then
     some (-1)
    else
     some 0
theorem zk2 (H:H50 D σ F) (x1:LI) (x2:LI) :∀ (k:Nat) (x6:Int) (s:Nat→V),zr [(0,eL x1),(1,eL x2),(4,ji 0),(9,eL x1),(10,ji (x1.length:Int)),(11,ji x6)] s→ui F x1 x2 k x6=some r→Run D σ (R50 r) (.run zi9 [.lp zi9,.bk 0,.sq zi0]) s:=by
 intro k
 induction k with
 | zero=>intro x6 s _ h;exact nm h
 | succ k ih=>
   intro x6 s hs h
   rw [ui] at h
   obtain ⟨h0,h1,h4,h9,h10,h11⟩:=hs
   refine .seq (rg (g2 11 10 (jb (decide (x6 < (x1.length:Int)))) h11 h10 fun h12=>gq (.nsq (.seq (zn h12 h (fun h=>?_) (fun h=>?_))))))
   · refine .skip (.nsq (.seq (.block (.seq (rg (gm h11 fun h13=>?_))))))
     obtain ⟨v10,Ev10,h⟩:=zb h
     refine gv (.ref .sh 0 [] (ji v10)) (yn (t:=.sh) (lo:=0) (xs:=x1) h9 h11 Ev10 rfl rfl) fun h14=>g1 14 (ji v10) h14 fun h15=>gm h13 fun h5=>gm h15 fun h6=>gq (.nsq (.seq (.seq (rg (gm h5 fun h16=>gm h1 fun h17=>gl x2 h17 fun h18=>g2 16 18 (jb (decide (x6≥(x2.length:Int)))) h16 h18 fun h19=>gq (.nsq (zn h19 h (fun h=>?_) (fun h=>?_))))))))
     · refine .seq (rg (g0 (ji 1) fun h4=>gq (.nsq (.ret ?_))))
       obtain rfl:=oi h
       exact rrA (zo h4) rfl
     refine .skip (.nsq (.seq (rg (gm h1 fun h20=>gm h5 fun h21=>?_))))
     obtain ⟨v11,Ev11,h⟩:=zb h
     refine gv (.ref .sh 0 [] (ji v11)) (yn (t:=.sh) (lo:=0) (xs:=x2) h20 h21 Ev11 rfl rfl) fun h22=>g1 22 (ji v11) h22 fun h23=>gm h23 fun h7=>gq (.nsq (.seq (rg (gm h6 fun h24=>gm h7 fun h25=>?_))))
     obtain ⟨r12,Er12,h⟩:=zb h
     refine gcF [Enc.enc (v10:Int),Enc.enc (v11:Int)] (zf h24 rfl rfl (zf h25 rfl rfl zA)) (H.c75 _ _ _ Er12) H.g75 (gm (rf (ji r12)) fun h8=>gq (.nsq (.seq (rg (gm h8 fun h27=>g1 27 (jb (r12 != 0)) h27 fun h28=>gq (.nsq (zn h28 h (fun h=>?_) (fun h=>?_))))))))
     · refine .seq (rg (gm h8 fun h29=>gm h29 fun h4=>gq (.nsq (.ret ?_))))
       obtain rfl:=oi h
       exact rrA (zo h4) rfl
     refine .skip (.nbk (.nsq (rg (g1 11 (ji (w64 (x6 + 1))) h11 fun h30=>gm h30 fun h11=>gq (.nlp ?_)))))
     exact ih (w64 (x6 + 1)) _ ⟨h0,h1,h4,h9,h10,h11⟩ h
   refine .exit (.esq (.elp (.ebk (.nsq (.seq (.seq (rg (gm h0 fun h31=>gl x1 h31 fun h32=>gm h1 fun h33=>gl x2 h33 fun h34=>g2 32 34 (jb (decide ((x1.length:Int) < (x2.length:Int)))) h32 h34 fun h35=>gq (.nsq (zn h35 h (fun h=>?_) (fun h=>?_)))))))))))
   · refine .seq (rg (g0 (ji (-1)) fun h4=>gq (.nsq (.ret ?_))))
     obtain rfl:=oi h
     exact rrA (zo h4) rfl
   refine .skip (.nsq (.seq (rg (g0 (ji 0) fun h4=>gq (.nsq (.ret ?_))))))
   obtain rfl:=oi h
   exact rrA (zo h4) rfl
def vF (F:Nat) (x1:LI) (x2:LI):Option Int:=
 ui F x1 x2 F 0
theorem t50 (H:H50 D σ F) (x1:LI) (x2:LI) (s:Nat→V) (hs:zr [(0,eL x1),(1,eL x2)] s) (h:vF F x1 x2=some r):Run D σ (R50 r) (.run A50 []) s:=by
 unfold vF at h
 obtain ⟨h0,h1⟩:=hs
 refine .seq (rg (g0 (ji 0) fun h4=>gq (.nsq (.seq (.seq (rg (gm h0 fun h9=>gl x1 h9 fun h10=>g0 (ji 0) fun h11=>gq (.nsq (.block (.loop ?_))))))))))
 exact zk2 H x1 x2 F 0 _ ⟨h0,h1,h4,h9,h10,h11⟩ h
end
def e50 (F:Nat):Ent:=ent 50 (fun (x:(LI×LI×Unit))=>vF F x.1 x.2.1) (fun (r:Int)=>(Enc.enc (r:Int))) 0 false []
abbrev C50 (D:List V→Option V) (F:Nat):Prop:=∀ (x0:LI) (x1:LI) r,vF F x0 x1=some r→D [Enc.enc x0,Enc.enc x1]=some (Enc.enc (r:Int))
theorem p50 {F:Nat}:C50 (e50 F).den F:=fun x0 x1 _ h=>zU (x0,x1,()) h
theorem o50 (hF:zG Try.prog D σ) (H:H50 D σ F):(e50 F).Ok Try.prog:=okZ (f:=50) Try.func50 fun ⟨x0,x1,_⟩ y hy=>cR hF Try.func50 c50 (t50 H x0 x1 _ ⟨rfl,rfl⟩ hy)
def zmz:AC:=(.cond (.t 48) (.seq (rr [jv 2 (.mov kf)]) .ret) .skip)
def zut:AC:=(.seq (rr [jv 17 (.idxA (.t 4) (jn 0) 2 1),jl 18 17,jv 19 (.bin .lss (.t 18) (jn 0)),jm 20 19,jg 21 20 false (.idxA (.t 4) (jn 0) 2 1),jg 22 20 false (.load .s (.t 21)),jg 23 20 false (.idxA (.t 4) (jn 1) 2 1),jg 24 20 false (.load .s (.t 23)),jg 25 20 false (.bin .geq (.t 22) (.t 24)),jv 26 (.pick (.t 20) kt (.t 25)),jm 27 26,jg 28 27 false (.idxA (.t 4) (jn 1) 2 1),jg 29 27 false (.load .s (.t 28)),jg 30 27 false (.fld (.t 1) 0 0),jg 31 27 false (.load .s (.t 30)),jg 32 27 false (.bin .geq (.t 29) (.t 31)),jv 33 (.pick (.t 27) kt (.t 32)),jm 34 33,jg 35 34 false (.mov (.t 3)),jg 36 34 false (.bin .gtr (.t 35) (jn 0)),jg 37 34 false (.mov (.t 36)),jg 38 37 true (.fld (.t 1) 1 1),jg 39 37 true (.load .p (.t 38)),jg 40 37 true (.mov (.t 3)),jg 41 37 true (.bin .sub (.t 40) (jn 1)),jg 42 37 true (.idx (.t 39) (.t 41) 2),jg 43 37 true (.sliceA (.t 42) 2 .s),jg 44 37 true (.sliceA (.t 4) 2 .s),.mk (some 45) (some (37,true)) false (.call (jf 50) [.t 43,.t 44]),jg 46 37 true (.bin .geq (.t 45) (jn 0)),jg 47 34 false (.pick (.t 37) (.t 46) kf),jv 48 (.pick (.t 34) kt (.t 47))]) zmz)
def znk:AC:=(rr [jv 49 (.bin .add (.t 12) (jn 1)),jm 12 49])
def zuA:AC:=(.seq (.block 1 (.seq (.reg [.clr [4]] [jm 14 12,jv 15 (.idx (.t 10) (.t 12) 2),jv 16 (.load (.ag [.s,.s]) (.t 15)),jx 4 (.alloc (.agg [i0,i0])),jm 3 14,jz (.store (.ag [.s,.s]) (.t 4) (.t 16))] []) zut)) znk)
def ztE:AC:=(.seq (.cond (.t 13) .skip (.exit 0)) zuA)
def zaa:AC:=(.seq (rr [jv 13 (.bin .lss (.t 12) (.t 11))]) ztE)
def zgG:AC:=(.seq (rr [jv 2 (.mov kt)]) .ret)
def zth:AC:=(.cond (.t 8) (.seq (rr [jv 2 (.mov kf)]) .ret) .skip)
def zoa:AC:=(.block 0 (.loop zaa))
def znD:AC:=(.seq (.seq (rr [jv 9 (.fld (.t 1) 1 1),jv 10 (.load .p (.t 9)),jk 11 10,jv 12 (.mov (jn 0))]) zoa) zgG)
def zuK:AC:=(.seq (.seq (rr [jv 5 (.fld (.t 1) 0 0),jl 6 5,jx 7 (.call (jf 40) [.t 6,jn 0,jn 8]),jv 8 (.un .not (.t 7))]) zth) znD)
def A26:AC:=(.seq (.reg [.clr [1]] [jx 1 (.box (.t 0)),jv 2 (.mov kf)] []) zuK)
def zxc:List An:=[⟨0,[.clr [1]],[],[],[]⟩,⟨5,[.clr [4]],[],[],[]⟩]
theorem c26:cq Try.prog Try.f26 zxc=some A26:=by kernel_rfl
structure H26 (D:Den) (σ:Sig) (F:Nat):Prop where
 c40:C40 (D 40) F
 g40:σ 40=some (0,false)
 c50:C50 (D 50) F
 g50:σ 50=some (0,false)
abbrev R26 (r:Bool):(Nat→V)→Prop:=RR Try.prog [.tmp 2] 0 false (Enc.enc (r:Bool))
section
variable {r:Bool}
def ua (F:Nat) (x1:GR) (x9:Int) (c1:Int→Option Bool) (x19:Bool):Option Bool:=
 bif x19 then
  some false
 else
  c1 (w64 (x9 + 1))
theorem JZ (H:H26 D σ F) (x1:GR) (x9:Int) (c1:Int→Option Bool) (Hc1:∀ (x9:Int) (s:Nat→V),zr [(1,bG 1 x1),(2,jb false),(10,eP x1.2),(11,ji (x1.2.length:Int)),(12,ji x9)] s→c1 x9=some r→Run D σ (R26 r) (.run zaa [.lp zaa,.bk 0,.sq zgG]) s) (x19:Bool) (s:Nat→V) (hs:zr [(1,bG 1 x1),(2,jb false),(10,eP x1.2),(11,ji (x1.2.length:Int)),(12,ji x9),(48,jb x19)] s) (h:ua F x1 x9 c1 x19=some r):Run D σ (R26 r) (.nrm [.sq zmz,.bk 1,.sq znk,.lp zaa,.bk 0,.sq zgG]) s:=by
 unfold ua at h
 obtain ⟨h1,h2,h10,h11,h12,h48⟩:=hs
 refine .nsq (zn h48 h (fun h=>?_) (fun h=>?_))
 · refine .seq (rg (g0 (jb false) fun h2=>gq (.nsq (.ret ?_))))
   obtain rfl:=oi h
   exact rrA (zo h2) rfl
 refine .skip (.nbk (.nsq (rg (g1 12 (ji (w64 (x9 + 1))) h12 fun h49=>gm h49 fun h12=>gq (.nlp ?_)))))
 exact Hc1 (w64 (x9 + 1)) _ ⟨h1,h2,h10,h11,h12⟩ h
def xc (F:Nat) (x1:GR) :Nat→Int→Option Bool
 | 0,_=>none
 | k + 1,x9=>
   bif decide (x9 < (x1.2.length:Int)) then
    (idx x1.2 x9).bind fun v16=>
    bif decide (v16.1 < 0) then
     ua F x1 x9 (xc F x1 k) true
    else
     bif decide (v16.1≥v16.2) then
      ua F x1 x9 (xc F x1 k) true
     else
      bif decide (v16.2≥x1.1) then
       ua F x1 x9 (xc F x1 k) true
      else
       bif decide (x9 > 0) then
        (idx x1.2 (w64 (x9 - 1))).bind fun v20=>
        (vF F [v20.1,v20.2] [v16.1,v16.2]).bind fun r21=>
        ua F x1 x9 (xc F x1 k) (decide (r21≥0))
       else
        ua F x1 x9 (xc F x1 k) false
   else
    some true
theorem zkP (H:H26 D σ F) (x1:GR) :∀ (k:Nat) (x9:Int) (s:Nat→V),zr [(1,bG 1 x1),(2,jb false),(10,eP x1.2),(11,ji (x1.2.length:Int)),(12,ji x9)] s→xc F x1 k x9=some r→Run D σ (R26 r) (.run zaa [.lp zaa,.bk 0,.sq zgG]) s:=by
 intro k
 induction k with
 | zero=>intro x9 s _ h;exact nm h
 | succ k ih=>
   intro x9 s hs h
   rw [xc] at h
   obtain ⟨h1,h2,h10,h11,h12⟩:=hs
   refine .seq (rg (g2 12 11 (jb (decide (x9 < (x1.2.length:Int)))) h12 h11 fun h13=>gq (.nsq (.seq (zn h13 h (fun h=>?_) (fun h=>?_))))))
   · refine .skip (.nsq (.seq (.block (.seq (zw (z3 ?_))))))
     refine ez [(1,_),(2,_),(4,_),(10,_),(11,_),(12,_)] ⟨za h1 rfl (zj rfl mIE),za h2 rfl mb,ze rfl,za h10 rfl me,za h11 rfl mi,za h12 rfl mi⟩ ?_
     rintro s ⟨h1,h2,h4,h10,h11,h12⟩
     refine gm h12 fun h14=>?_
     obtain ⟨v16,Ev16,h⟩:=zb h
     refine gv (.ref .sh 0 [] (.agg [ji v16.1,ji v16.2])) (yn (t:=.sh) (lo:=0) (xs:=x1.2) h10 h12 Ev16 rfl rfl) fun h15=>g1 15 (.agg [ji v16.1,ji v16.2]) h15 fun h16=>xA h4 (gm h14 fun h3=>ye (.agg [ji v16.1,ji v16.2]) (zF rfl rfl) (zF h16 rfl) (xN (by first | rfl | simp [V.toks,V.tokss,Enc.toks_enc,yd])) (gz [(1,bG 1 x1),(2,jb false),(3,ji x9),(4,.ref (.bx 4) 0 [] (.agg [ji v16.1,ji v16.2])),(10,eP x1.2),(11,ji (x1.2.length:Int)),(12,ji x9)] ⟨zd h1 (zH rfl rfl uIE),zd h2 rfl,zd h3 rfl,zd rfl rfl,zd h10 uE,zd h11 rfl,zd h12 rfl⟩ ?_))
     rintro s ⟨h1,h2,h3,h4,h10,h11,h12⟩
     refine .nsq (.seq (rg (g1 4 (.ref (.bx 4) 0 [0] (ji v16.1)) h4 fun h17=>g1 17 (ji v16.1) h17 fun h18=>g1 18 (jb (decide (v16.1 < 0))) h18 fun h19=>gm h19 fun h20=>z4 h (fun hg4 h=>?_) (fun hg4 h=>?_))))
     · iterate 5 refine zR (ct h20 hg4) ?_
       refine g2 20 25 (jb true) (ct h20 hg4) (rf (.tup [])) fun h26=>gm h26 fun h27=>zR h27 ?_
       iterate 4 refine zR h27 ?_
       refine g2 27 32 (jb true) h27 (rf (.tup [])) fun h33=>gm h33 fun h34=>zR h34 ?_
       iterate 2 refine zR h34 ?_
       iterate 9 refine YF rfl ?_
       refine zR h34 (g2 34 47 (jb true) h34 (rf (.tup [])) fun h48=>gz [(1,_),(2,_),(10,_),(11,_),(12,_),(48,_)] ⟨h1,h2,h10,h11,h12,h48⟩ ?_)
       rintro s ⟨h1,h2,h10,h11,h12,h48⟩
       exact JZ H x1 x9 (xc F x1 k) ih true _ ⟨h1,h2,h10,h11,h12,h48⟩ h
     refine zm (ct h20 hg4) (g1 4 (.ref (.bx 4) 0 [0] (ji v16.1)) h4 fun h21=>zm (ct h20 hg4) (g1 21 (ji v16.1) h21 fun h22=>zm (ct h20 hg4) (g1 4 (.ref (.bx 4) 0 [1] (ji v16.2)) h4 fun h23=>zm (ct h20 hg4) (g1 23 (ji v16.2) h23 fun h24=>zm (ct h20 hg4) (g2 22 24 (jb (decide (v16.1≥v16.2))) h22 h24 fun h25=>g2 20 25 (jb (decide (v16.1≥v16.2))) (ct h20 hg4) h25 fun h26=>gm h26 fun h27=>z4 h (fun hg11 h=>?_) (fun hg11 h=>?_))))))
     · iterate 5 refine zR (ct h27 hg11) ?_
       refine g2 27 32 (jb true) (ct h27 hg11) (rf (.tup [])) fun h33=>gm h33 fun h34=>zR h34 ?_
       iterate 2 refine zR h34 ?_
       iterate 9 refine YF rfl ?_
       refine zR h34 (g2 34 47 (jb true) h34 (rf (.tup [])) fun h48=>gz [(1,_),(2,_),(10,_),(11,_),(12,_),(48,_)] ⟨h1,h2,h10,h11,h12,h48⟩ ?_)
       rintro s ⟨h1,h2,h10,h11,h12,h48⟩
       exact JZ H x1 x9 (xc F x1 k) ih true _ ⟨h1,h2,h10,h11,h12,h48⟩ h
     refine zm (ct h27 hg11) (g1 4 (.ref (.bx 4) 0 [1] (ji v16.2)) h4 fun h28=>zm (ct h27 hg11) (g1 28 (ji v16.2) h28 fun h29=>zm (ct h27 hg11) (g1 1 (.ref (.bx 1) 0 [0] (ji x1.1)) h1 fun h30=>zm (ct h27 hg11) (g1 30 (ji x1.1) h30 fun h31=>zm (ct h27 hg11) (g2 29 31 (jb (decide (v16.2≥x1.1))) h29 h31 fun h32=>g2 27 32 (jb (decide (v16.2≥x1.1))) (ct h27 hg11) h32 fun h33=>gm h33 fun h34=>z4 h (fun hg18 h=>?_) (fun hg18 h=>?_))))))
     · iterate 3 refine zR (ct h34 hg18) ?_
       iterate 9 refine YF rfl ?_
       refine zR (ct h34 hg18) (g2 34 47 (jb true) (ct h34 hg18) (rf (.tup [])) fun h48=>gz [(1,_),(2,_),(10,_),(11,_),(12,_),(48,_)] ⟨h1,h2,h10,h11,h12,h48⟩ ?_)
       rintro s ⟨h1,h2,h10,h11,h12,h48⟩
       exact JZ H x1 x9 (xc F x1 k) ih true _ ⟨h1,h2,h10,h11,h12,h48⟩ h
     refine zm (ct h34 hg18) (gm h3 fun h35=>zm (ct h34 hg18) (g1 35 (jb (decide (x9 > 0))) h35 fun h36=>zm (ct h34 hg18) (gm h36 fun h37=>z4 h (fun hg21 h=>?_) (fun hg21 h=>?_))))
     · refine zm (ct h37 hg21) (g1 1 (.ref (.bx 1) 0 [1] (eP x1.2)) h1 fun h38=>zm (ct h37 hg21) (g1 38 (eP x1.2) h38 fun h39=>zm (ct h37 hg21) (gm h3 fun h40=>zm (ct h37 hg21) (g1 40 (ji (w64 (x9 - 1))) h40 fun h41=>?_))))
       obtain ⟨v20,Ev20,h⟩:=zb h
       refine zm (ct h37 hg21) (gv (.ref .sh 0 [] (.agg [ji v20.1,ji v20.2])) (yn (t:=.sh) (lo:=0) (xs:=x1.2) h39 h41 Ev20 rfl rfl) fun h42=>zm (ct h37 hg21) (g1 42 (eL [v20.1,v20.2]) h42 fun h43=>zm (ct h37 hg21) (g1 4 (zu (.bx 4) (.of ([v16.1,v16.2]:LI))) h4 fun h44=>?_)))
       obtain ⟨r21,Er21,h⟩:=zb h
       refine zm (ct h37 hg21) (gcF [Enc.enc ([v20.1,v20.2]:LI),Enc.enc ([v16.1,v16.2]:LI)] (zf h43 rfl (Enc.erase_enc ([v20.1,v20.2]:LI)) (zf h44 rfl (uw (o:=.of [v16.1,v16.2])) zA)) (H.c50 _ _ _ Er21) H.g50 (zm (ct h37 hg21) (g1 45 (jb (decide (r21≥0))) (rf (ji r21)) fun h46=>zm (ct h34 hg18) (g2 37 46 (jb (decide (r21≥0))) (ct h37 hg21) h46 fun h47=>g2 34 47 (jb (decide (r21≥0))) (ct h34 hg18) h47 fun h48=>gz [(1,_),(2,_),(10,_),(11,_),(12,_),(48,_)] ⟨h1,h2,h10,h11,h12,h48⟩ ?_))))
       rintro s ⟨h1,h2,h10,h11,h12,h48⟩
       exact JZ H x1 x9 (xc F x1 k) ih (decide (r21≥0)) _ ⟨h1,h2,h10,h11,h12,h48⟩ h
     iterate 9 refine zR (ct h37 hg21) ?_
     refine zm (ct h34 hg18) (g2 37 46 (jb false) (ct h37 hg21) (rf (.tup [])) fun h47=>g2 34 47 (jb false) (ct h34 hg18) h47 fun h48=>gz [(1,_),(2,_),(10,_),(11,_),(12,_),(48,_)] ⟨h1,h2,h10,h11,h12,h48⟩ ?_)
     rintro s ⟨h1,h2,h10,h11,h12,h48⟩
     exact JZ H x1 x9 (xc F x1 k) ih false _ ⟨h1,h2,h10,h11,h12,h48⟩ h
   refine .exit (.esq (.elp (.ebk (.nsq (.seq (rg (g0 (jb true) fun h2=>gq (.nsq (.ret ?_)))))))))
   obtain rfl:=oi h
   exact rrA (zo h2) rfl
def vh (F:Nat) (x1:GR):Option Bool:=
 (Yv F x1.1 0 8).bind fun r2=>
 bif (!r2) then
  some false
 else
  xc F x1 F 0
theorem t26 (H:H26 D σ F) (x1:GR) (s:Nat→V) (hs:zr [(0,gV x1)] s) (h:vh F x1=some r):Run D σ (R26 r) (.run A26 []) s:=by
 unfold vh at h
 have h0:=hs
 refine .seq (zw (z3 ?_))
 refine ez [(0,_),(1,_)] ⟨za h0 rfl mIE,ze rfl⟩ ?_
 rintro s ⟨h0,h1⟩
 refine xo (gV x1) (zF h0 rfl) h1 rfl (g0 (jb false) fun h2=>gq (.nsq (.seq (.seq (rg (g1 1 (.ref (.bx 1) 0 [0] (ji x1.1)) (rf (bG 1 x1)) fun h5=>g1 5 (ji x1.1) h5 fun h6=>?_))))))
 obtain ⟨r2,Er2,h⟩:=zb h
 refine gcF [Enc.enc (x1.1:Int),Enc.enc (0:Int),Enc.enc (8:Int)] (zf h6 rfl rfl (zf (v:=ji 0) rfl rfl rfl (zf (v:=ji 8) rfl rfl rfl zA))) (H.c40 _ _ _ _ Er2) H.g40 (g1 7 (jb (!r2)) (rf (jb r2)) fun h8=>gq (.nsq (zn h8 h (fun h=>?_) (fun h=>?_))))
 · refine .seq (rg (g0 (jb false) fun h2=>gq (.nsq (.ret ?_))))
   obtain rfl:=oi h
   exact rrA (zo h2) rfl
 refine .skip (.nsq (.seq (.seq (rg (g1 1 (.ref (.bx 1) 0 [1] (eP x1.2)) (rf (bG 1 x1)) fun h9=>g1 9 (eP x1.2) h9 fun h10=>gl x1.2 h10 fun h11=>g0 (ji 0) fun h12=>gq (.nsq (.block (.loop ?_))))))))
 exact zkP H x1 F 0 _ ⟨rfl,h2,h10,h11,h12⟩ h
end
def e26 (F:Nat):Ent:=ent 26 (fun (x:(GR×Unit))=>vh F x.1) (fun (r:Bool)=>(Enc.enc (r:Bool))) 0 false []
abbrev C26 (D:List V→Option V) (F:Nat):Prop:=∀ (x0:GR) r,vh F x0=some r→D [Enc.enc x0]=some (Enc.enc (r:Bool))
theorem p26 {F:Nat}:C26 (e26 F).den F:=fun x0 _ h=>zU (x0,()) h
theorem o26 (hF:zG Try.prog D σ) (H:H26 D σ F):(e26 F).Ok Try.prog:=okZ (f:=26) Try.func26 fun ⟨x0,_⟩ y hy=>cR hF Try.func26 c26 (t26 H x0 _ rfl hy)
def zt6:AC:=(.cond (.t 19) (.seq (rr [jv 6 (.mov kf)]) .ret) .skip)
def ztN:AC:=(.seq (rr [jm 15 8,jm 16 1,jm 17 2,jx 18 (.call (jf 40) [.t 15,.t 16,.t 17]),jv 19 (.un .not (.t 18))]) zt6)
def zpU:AC:=(rr [jv 20 (.bin .add (.t 11) (jn 1)),jm 11 20])
def zvh:AC:=(.seq (.block 1 (.seq (rr [jv 13 (.idx (.t 9) (.t 11) 1),jl 14 13,jm 8 14]) ztN)) zpU)
def zvT:AC:=(.seq (.cond (.t 12) .skip (.exit 0)) zvh)
def zjq:AC:=(.seq (rr [jv 12 (.bin .lss (.t 11) (.t 10))]) zvT)
def znc:AC:=(.seq (rr [jv 6 (.mov kt)]) .ret)
def zuw:AC:=(.block 0 (.loop zjq))
def zuh:AC:=(.seq (.seq (rr [jm 9 0,jk 10 9,jv 11 (.mov (jn 0))]) zuw) znc)
def A51:AC:=(.seq (rr [jv 6 (.mov kf)]) zuh)
def zw3:List An:=[]
theorem c51:cq Try.prog Try.f51 zw3=some A51:=by kernel_rfl
structure H51 (D:Den) (σ:Sig) (F:Nat):Prop where
 c40:C40 (D 40) F
 g40:σ 40=some (0,false)
abbrev R51 (r:Bool):(Nat→V)→Prop:=RR Try.prog [.tmp 6] 0 false (Enc.enc (r:Bool))
section
variable {r:Bool}
def vI (F:Nat) (x2:Int) (x3:Int) (x1:LI) :Nat→Int→Option Bool
 | 0,_=>none
 | k + 1,x6=>
   bif decide (x6 < (x1.length:Int)) then
    (idx x1 x6).bind fun v9=>
    (Yv F v9 x2 x3).bind fun r10=>
    bif (!r10) then
     some false
    else
     (vI F x2 x3 x1 k) (w64 (x6 + 1))
   else
    some true
theorem zi2 (H:H51 D σ F) (x2:Int) (x3:Int) (x1:LI) :∀ (k:Nat) (x6:Int) (s:Nat→V),zr [(1,ji x2),(2,ji x3),(6,jb false),(9,eL x1),(10,ji (x1.length:Int)),(11,ji x6)] s→vI F x2 x3 x1 k x6=some r→Run D σ (R51 r) (.run zjq [.lp zjq,.bk 0,.sq znc]) s:=by
 intro k
 induction k with
 | zero=>intro x6 s _ h;exact nm h
 | succ k ih=>
   intro x6 s hs h
   rw [vI] at h
   obtain ⟨h1,h2,h6,h9,h10,h11⟩:=hs
   refine .seq (rg (g2 11 10 (jb (decide (x6 < (x1.length:Int)))) h11 h10 fun h12=>gq (.nsq (.seq (zn h12 h (fun h=>?_) (fun h=>?_))))))
   · refine .skip (.nsq (.seq (.block (.seq (rg ?_)))))
     obtain ⟨v9,Ev9,h⟩:=zb h
     refine gv (.ref .sh 0 [] (ji v9)) (yn (t:=.sh) (lo:=0) (xs:=x1) h9 h11 Ev9 rfl rfl) fun h13=>g1 13 (ji v9) h13 fun h14=>gm h14 fun h8=>gq (.nsq (.seq (rg (gm h8 fun h15=>gm h1 fun h16=>gm h2 fun h17=>?_))))
     obtain ⟨r10,Er10,h⟩:=zb h
     refine gcF [Enc.enc (v9:Int),Enc.enc (x2:Int),Enc.enc (x3:Int)] (zf h15 rfl rfl (zf h16 rfl rfl (zf h17 rfl rfl zA))) (H.c40 _ _ _ _ Er10) H.g40 (g1 18 (jb (!r10)) (rf (jb r10)) fun h19=>gq (.nsq (zn h19 h (fun h=>?_) (fun h=>?_))))
     · refine .seq (rg (g0 (jb false) fun h6=>gq (.nsq (.ret ?_))))
       obtain rfl:=oi h
       exact rrA (zo h6) rfl
     refine .skip (.nbk (.nsq (rg (g1 11 (ji (w64 (x6 + 1))) h11 fun h20=>gm h20 fun h11=>gq (.nlp ?_)))))
     exact ih (w64 (x6 + 1)) _ ⟨h1,h2,h6,h9,h10,h11⟩ h
   refine .exit (.esq (.elp (.ebk (.nsq (.seq (rg (g0 (jb true) fun h6=>gq (.nsq (.ret ?_)))))))))
   obtain rfl:=oi h
   exact rrA (zo h6) rfl
def ZV (F:Nat) (x1:LI) (x2:Int) (x3:Int):Option Bool:=
 vI F x2 x3 x1 F 0
theorem t51 (H:H51 D σ F) (x1:LI) (x2:Int) (x3:Int) (s:Nat→V) (hs:zr [(0,eL x1),(1,ji x2),(2,ji x3)] s) (h:ZV F x1 x2 x3=some r):Run D σ (R51 r) (.run A51 []) s:=by
 unfold ZV at h
 obtain ⟨h0,h1,h2⟩:=hs
 refine .seq (rg (g0 (jb false) fun h6=>gq (.nsq (.seq (.seq (rg (gm h0 fun h9=>gl x1 h9 fun h10=>g0 (ji 0) fun h11=>gq (.nsq (.block (.loop ?_))))))))))
 exact zi2 H x2 x3 x1 F 0 _ ⟨h1,h2,h6,h9,h10,h11⟩ h
end
def e51 (F:Nat):Ent:=ent 51 (fun (x:(LI×Int×Int×Unit))=>ZV F x.1 x.2.1 x.2.2.1) (fun (r:Bool)=>(Enc.enc (r:Bool))) 0 false []
abbrev C51 (D:List V→Option V) (F:Nat):Prop:=∀ (x0:LI) (x1:Int) (x2:Int) r,ZV F x0 x1 x2=some r→D [Enc.enc x0,Enc.enc x1,Enc.enc x2]=some (Enc.enc (r:Bool))
theorem p51 {F:Nat}:C51 (e51 F).den F:=fun x0 x1 x2 _ h=>zU (x0,x1,x2,()) h
theorem o51 (hF:zG Try.prog D σ) (H:H51 D σ F):(e51 F).Ok Try.prog:=okZ (f:=51) Try.func51 fun ⟨x0,x1,x2,_⟩ y hy=>cR hF Try.func51 c51 (t51 H x0 x1 x2 _ ⟨rfl,rfl,rfl⟩ hy)
def ztz:AC:=(.cond (.t 37) .skip (.exit 2))
def zm3:AC:=(.cond (.t 54) (.seq (rr [jv 4 (.mov (.k (.sl .nl .s 0 []))),jv 5 (.mov kf)]) .ret) .skip)
def zjW:AC:=(rr [jm 55 6,jm 56 7,jv 57 (.idx (.t 55) (.t 56) 1),jl 58 57,jm 59 8,jv 60 (.bin .shl (jn 1) (.t 59)),jv 61 (.bin .or (.t 58) (.t 60)),jv 62 (.idx (.t 55) (.t 56) 1),jz (.store .s (.t 62) (.t 61))])
def ziM:AC:=(rr [jm 38 1,jm 39 8,jv 40 (.idx (.t 38) (.t 39) 1),jl 41 40,jm 8 41])
def zuV:AC:=(.seq (.block 3 (.seq (.seq (rr [jm 42 8,jm 43 7,jv 44 (.bin .eql (.t 42) (.t 43)),jm 45 44,jg 46 45 false (.mov (.t 6)),jg 47 45 false (.mov (.t 7)),jg 48 45 false (.idx (.t 46) (.t 47) 1),jg 49 45 false (.load .s (.t 48)),jg 50 45 false (.mov (.t 8)),jg 51 45 false (.bin .shr (.t 49) (.t 50)),jg 52 45 false (.bin .and (.t 51) (jn 1)),jg 53 45 false (.bin .eql (.t 52) (jn 1)),jv 54 (.pick (.t 45) kt (.t 53))]) zm3) zjW)) ziM)
def QW:AC:=(.seq (.seq (rr [jm 36 8,jv 37 (.bin .geq (.t 36) (jn 0))]) ztz) zuV)
def zq0:AC:=(.block 2 (.loop QW))
def zqI:AC:=(.seq (rr [jm 32 1,jm 33 7,jv 34 (.idx (.t 32) (.t 33) 1),jl 35 34,jm 8 35]) zq0)
def zbm:AC:=(rr [jv 63 (.bin .add (.t 29) (jn 1)),jm 29 63])
def zrK:AC:=(.seq (.block 1 (.seq (rr [jm 31 29,jm 7 31]) zqI)) zbm)
def zqx:AC:=(.seq (.cond (.t 30) .skip (.exit 0)) zrK)
def KC:AC:=(.seq (rr [jv 30 (.bin .lss (.t 29) (.t 28))]) zqx)
def zi5:AC:=(.cond (.t 92) (.seq (rr [jv 4 (.mov (.k (.sl .nl .s 0 []))),jv 5 (.mov kf)]) .ret) .skip)
def znO:AC:=(.seq (rr [jm 71 6,jv 72 (.idxA (.t 10) (jn 0) 2 1),jl 73 72,jv 74 (.idx (.t 71) (.t 73) 1),jl 75 74,jv 76 (.idxA (.t 10) (jn 1) 2 1),jl 77 76,jv 78 (.bin .shr (.t 75) (.t 77)),jv 79 (.bin .and (.t 78) (jn 1)),jv 80 (.bin .eql (.t 79) (jn 0)),jm 81 80,jg 82 81 true (.mov (.t 6)),jg 83 81 true (.idxA (.t 10) (jn 1) 2 1),jg 84 81 true (.load .s (.t 83)),jg 85 81 true (.idx (.t 82) (.t 84) 1),jg 86 81 true (.load .s (.t 85)),jg 87 81 true (.idxA (.t 10) (jn 0) 2 1),jg 88 81 true (.load .s (.t 87)),jg 89 81 true (.bin .shr (.t 86) (.t 88)),jg 90 81 true (.bin .and (.t 89) (jn 1)),jg 91 81 true (.bin .eql (.t 90) (jn 0)),jv 92 (.pick (.t 81) (.t 91) kf)]) zi5)
def zld:AC:=(rr [jv 93 (.bin .add (.t 67) (jn 1)),jm 67 93])
def znz:AC:=(.seq (.block 5 (.seq (.reg [.clr [10]] [jv 69 (.idx (.t 65) (.t 67) 2),jv 70 (.load (.ag [.s,.s]) (.t 69)),jx 10 (.alloc (.agg [i0,i0])),jz (.store (.ag [.s,.s]) (.t 10) (.t 70))] []) znO)) zld)
def zow:AC:=(.seq (.cond (.t 68) .skip (.exit 4)) znz)
def Ly:AC:=(.seq (rr [jv 68 (.bin .lss (.t 67) (.t 66))]) zow)
def zpj:AC:=(.block 4 (.loop Ly))
def zaW:AC:=(.seq (.reg [] [jm 94 6,jm 4 94,jv 5 (.mov kt)] [.home 6 4]) .ret)
def KP:AC:=(.seq (.seq (rr [jv 64 (.fld (.t 2) 1 1),jv 65 (.load .p (.t 64)),jk 66 65,jv 67 (.mov (jn 0))]) zpj) zaW)
def zjf:AC:=(.cond (.t 23) (.seq (rr [jv 4 (.mov (.k (.sl .nl .s 0 []))),jv 5 (.mov kf)]) .ret) .skip)
def zo5:AC:=(.block 0 (.loop KC))
def zoP:AC:=(.seq (.seq (rr [jm 27 6,jk 28 27,jv 29 (.mov (jn 0))]) zo5) KP)
def zir:AC:=(.seq (.reg [.clr [26]] [jv 24 (.fld (.t 2) 0 0),jl 25 24,jx 26 (.mk (.t 25) i0 i0),jm 6 26] [.home 26 6]) zoP)
def zpL:AC:=(.seq (.seq (rr [jm 11 1,jk 12 11,jv 13 (.fld (.t 2) 0 0),jl 14 13,jv 15 (.bin .neq (.t 12) (.t 14)),jm 16 15,jg 17 16 false (.mov (.t 1)),jg 18 16 false (.fld (.t 2) 0 0),jg 19 16 false (.load .s (.t 18)),jg 20 16 false (.bin .sub (.t 19) (jn 1)),.mk (some 21) (some (16,false)) false (.call (jf 51) [.t 17,jn (-1),.t 20]),jg 22 16 false (.un .not (.t 21)),jv 23 (.pick (.t 16) kt (.t 22))]) zjf) zir)
def A27:AC:=(.seq (.reg [.clr [2]] [jx 2 (.box (.t 0)),jv 4 (.mov (.k (.sl .nl .s 0 []))),jv 5 (.mov kf)] []) zpL)
def zwx:List An:=[⟨0,[.clr [2]],[],[],[]⟩,⟨3,[.clr [26]],[],[],[.home 26 6]⟩,⟨16,[.clr [10]],[],[],[]⟩,⟨20,[],[],[],[.home 6 4]⟩]
theorem c27:cq Try.prog Try.f27 zwx=some A27:=by kernel_rfl
structure H27 (D:Den) (σ:Sig) (F:Nat):Prop where
 c51:C51 (D 51) F
 g51:σ 51=some (0,false)
abbrev R27 (r:(LI×Bool)):(Nat→V)→Prop:=RR Try.prog [.tmp 4,.tmp 5] 0 false (.tup [eL r.1,Enc.enc (r.2:Bool)])
section
variable {r:(LI×Bool)}
def uG (F:Nat) (x2:LI) (x1:GR) (x78:LI) (x37:Int) (x79:Int) (mk5:LI) (c1:LI→Int→Option (LI×Bool)) (c4:LI→Int→Option (LI×Bool)) (x91:Bool):Option (LI×Bool):=
 bif x91 then
  some ([],false)
 else
  (idx x78 x37).bind fun v92=>
  (Xr .i64 1 x79).bind fun q93=>
  (idx x78 x37).bind fun v94=>
  (idx x2 x79).bind fun v95=>
  c4 (x78.set x37.toNat (ior .i64 v92 q93)) v95
theorem zek (H:H27 D σ F) (x2:LI) (x1:GR) (x78:LI) (x37:Int) (x79:Int) (mk5:LI) (c1:LI→Int→Option (LI×Bool)) (Hc1:∀ (x36:LI) (x37:Int) (s:Nat→V),zr [(1,eL x2),(2,bG 2 x1),(4,nI),(5,jb false),(6,oI 6 [] (.of x36)),(28,ji (mk5.length:Int)),(29,ji x37)] s→c1 x36 x37=some r→Run D σ (R27 r) (.run KC [.lp KC,.bk 0,.sq KP]) s) (c4:LI→Int→Option (LI×Bool)) (Hc4:∀ (x78:LI) (x79:Int) (s:Nat→V),zr [(1,eL x2),(2,bG 2 x1),(4,nI),(5,jb false),(6,oI 6 [] (.of x78)),(7,ji x37),(8,ji x79),(28,ji (mk5.length:Int)),(29,ji x37)] s→c4 x78 x79=some r→Run D σ (R27 r) (.run QW [.lp QW,.bk 2,.bk 1,.sq zbm,.lp KC,.bk 0,.sq KP]) s) (x91:Bool) (s:Nat→V) (hs:zr [(1,eL x2),(2,bG 2 x1),(4,nI),(5,jb false),(6,oI 6 [] (.of x78)),(7,ji x37),(8,ji x79),(28,ji (mk5.length:Int)),(29,ji x37),(54,jb x91)] s) (h:uG F x2 x1 x78 x37 x79 mk5 c1 c4 x91=some r):Run D σ (R27 r) (.nrm [.sq zm3,.sq zjW,.bk 3,.sq ziM,.lp QW,.bk 2,.bk 1,.sq zbm,.lp KC,.bk 0,.sq KP]) s:=by
 unfold uG at h
 obtain ⟨h1,h2,h4,h5,h6,h7,h8,h28,h29,h54⟩:=hs
 refine .nsq (zn h54 h (fun h=>?_) (fun h=>?_))
 · refine .seq (rg (g0 nI fun h4=>g0 (jb false) fun h5=>gq (.nsq (.ret ?_))))
   obtain rfl:=oi h
   exact rrB (zo h4) (zo h5) (wY (Y9 (xd (wy (o:=(.nil:NL Int)) (t:=.nl)) (xd (w6 (x:=(false:Bool))) Zr))) (UI (xn QA (xn rfl ZG))))
 refine .skip (.nsq (rg (gm h6 fun h55=>gm h7 fun h56=>?_)))
 obtain ⟨v92,Ev92,h⟩:=zb h
 refine gv (.ref (.at 6 []) x37.toNat [] (ji v92)) (xq (o:=.of x78) h55 h56 Ev92 rfl) fun h57=>g1 57 (ji v92) h57 fun h58=>gm h8 fun h59=>?_
 obtain ⟨q93,Eq93,h⟩:=zb h
 refine gv (ji q93) (uo rfl h59 Eq93) fun h60=>g2 58 60 (ji (ior .i64 v92 q93)) h58 h60 fun h61=>?_
 obtain ⟨v94,Ev94,h⟩:=zb h
 refine gv (.ref (.at 6 []) x37.toNat [] (ji v94)) (xq (o:=.of x78) h55 h56 Ev94 rfl) fun h62=>ye (ji (ior .i64 v92 q93)) (zF h62 rfl) (zF h61 rfl) (xN (by first | rfl | simp [V.toks,V.tokss,Enc.toks_enc,yd])) (gz [(1,eL x2),(2,bG 2 x1),(4,nI),(5,jb false),(6,_),(7,ji x37),(8,ji x79),(28,ji (mk5.length:Int)),(29,ji x37)] ⟨zd h1 uE,zd h2 (zH rfl rfl uIE),zd h4 rfl,zd h5 rfl,zd h6 Xu,zd h7 rfl,zd h8 rfl,zd h28 rfl,zd h29 rfl⟩ ?_)
 rintro s ⟨h1,h2,h4,h5,h6,h7,h8,h28,h29⟩
 refine .nbk (.nsq (rg (gm h1 fun h38=>gm h8 fun h39=>?_)))
 obtain ⟨v95,Ev95,h⟩:=zb h
 refine gv (.ref .sh 0 [] (ji v95)) (yn (t:=.sh) (lo:=0) (xs:=x2) h38 h39 Ev95 rfl rfl) fun h40=>g1 40 (ji v95) h40 fun h41=>gm h41 fun h8=>gq (.nlp ?_)
 exact Hc4 (x78.set x37.toNat (ior .i64 v92 q93)) v95 _ ⟨h1,h2,h4,h5,h6,h7,h8,h28,h29⟩ h
def yI (F:Nat) (x2:LI) (x1:GR) (x37:Int) (mk5:LI) (c1:LI→Int→Option (LI×Bool)):Nat→LI→Int→Option (LI×Bool)
 | 0,_,_=>none
 | k + 1,x78,x79=>
   bif decide (x79≥0) then
    bif (x79 == x37) then
     uG F x2 x1 x78 x37 x79 mk5 c1 (yI F x2 x1 x37 mk5 c1 k) true
    else
     (idx x78 x37).bind fun v96=>
     (UD .i64 v96 x79).bind fun q97=>
     uG F x2 x1 x78 x37 x79 mk5 c1 (yI F x2 x1 x37 mk5 c1 k) ((yx .i64 q97 1) == 1)
   else
    c1 x78 (w64 (x37 + 1))
theorem zjS (H:H27 D σ F) (x2:LI) (x1:GR) (x37:Int) (mk5:LI) (c1:LI→Int→Option (LI×Bool)) (Hc1:∀ (x36:LI) (x37:Int) (s:Nat→V),zr [(1,eL x2),(2,bG 2 x1),(4,nI),(5,jb false),(6,oI 6 [] (.of x36)),(28,ji (mk5.length:Int)),(29,ji x37)] s→c1 x36 x37=some r→Run D σ (R27 r) (.run KC [.lp KC,.bk 0,.sq KP]) s):∀ (k:Nat) (x78:LI) (x79:Int) (s:Nat→V),zr [(1,eL x2),(2,bG 2 x1),(4,nI),(5,jb false),(6,oI 6 [] (.of x78)),(7,ji x37),(8,ji x79),(28,ji (mk5.length:Int)),(29,ji x37)] s→yI F x2 x1 x37 mk5 c1 k x78 x79=some r→Run D σ (R27 r) (.run QW [.lp QW,.bk 2,.bk 1,.sq zbm,.lp KC,.bk 0,.sq KP]) s:=by
 intro k
 induction k with
 | zero=>intro x78 x79 s _ h;exact nm h
 | succ k ih=>
   intro x78 x79 s hs h
   rw [yI] at h
   obtain ⟨h1,h2,h4,h5,h6,h7,h8,h28,h29⟩:=hs
   refine .seq (.seq (rg (gm h8 fun h36=>g1 36 (jb (decide (x79≥0))) h36 fun h37=>gq (.nsq (zn h37 h (fun h=>?_) (fun h=>?_))))))
   · refine .skip (.nsq (.seq (.block (.seq (.seq (rg (gm h8 fun h42=>gm h7 fun h43=>g2 42 43 (jb (x79 == x37)) h42 h43 fun h44=>gm h44 fun h45=>z4 h (fun hg4 h=>?_) (fun hg4 h=>?_))))))))
     · iterate 8 refine zR (ct h45 hg4) ?_
       refine g2 45 53 (jb true) (ct h45 hg4) (rf (.tup [])) fun h54=>gq ?_
       exact zek H x2 x1 x78 x37 x79 mk5 c1 Hc1 (yI F x2 x1 x37 mk5 c1 k) ih true _ ⟨h1,h2,h4,h5,h6,h7,h8,h28,h29,h54⟩ h
     refine zm (ct h45 hg4) (gm h6 fun h46=>zm (ct h45 hg4) (gm h7 fun h47=>?_))
     obtain ⟨v96,Ev96,h⟩:=zb h
     refine zm (ct h45 hg4) (gv (.ref (.at 6 []) x37.toNat [] (ji v96)) (xq (o:=.of x78) h46 h47 Ev96 rfl) fun h48=>zm (ct h45 hg4) (g1 48 (ji v96) h48 fun h49=>zm (ct h45 hg4) (gm h8 fun h50=>?_)))
     obtain ⟨q97,Eq97,h⟩:=zb h
     refine zm (ct h45 hg4) (gv (ji q97) (Xh h49 h50 Eq97) fun h51=>zm (ct h45 hg4) (g1 51 (ji (yx .i64 q97 1)) h51 fun h52=>zm (ct h45 hg4) (g1 52 (jb ((yx .i64 q97 1) == 1)) h52 fun h53=>g2 45 53 (jb ((yx .i64 q97 1) == 1)) (ct h45 hg4) h53 fun h54=>gq ?_)))
     exact zek H x2 x1 x78 x37 x79 mk5 c1 Hc1 (yI F x2 x1 x37 mk5 c1 k) ih ((yx .i64 q97 1) == 1) _ ⟨h1,h2,h4,h5,h6,h7,h8,h28,h29,h54⟩ h
   refine .exit (.esq (.elp (.ebk (.nbk (.nsq (rg (g1 29 (ji (w64 (x37 + 1))) h29 fun h63=>gm h63 fun h29=>gq (.nlp ?_))))))))
   exact Hc1 x78 (w64 (x37 + 1)) _ ⟨h1,h2,h4,h5,h6,h28,h29⟩ h
def uJ (F:Nat) (x36:LI) (x1:GR) (x108:Int) (c5:Int→Option (LI×Bool)) (x124:Bool):Option (LI×Bool):=
 bif x124 then
  some ([],false)
 else
  c5 (w64 (x108 + 1))
theorem zdu (H:H27 D σ F) (x36:LI) (x1:GR) (x108:Int) (c5:Int→Option (LI×Bool)) (Hc5:∀ (x108:Int) (s:Nat→V),zr [(4,nI),(5,jb false),(6,oI 6 [] (.of x36)),(65,eP x1.2),(66,ji (x1.2.length:Int)),(67,ji x108)] s→c5 x108=some r→Run D σ (R27 r) (.run Ly [.lp Ly,.bk 4,.sq zaW]) s) (x124:Bool) (s:Nat→V) (hs:zr [(4,nI),(5,jb false),(6,oI 6 [] (.of x36)),(65,eP x1.2),(66,ji (x1.2.length:Int)),(67,ji x108),(92,jb x124)] s) (h:uJ F x36 x1 x108 c5 x124=some r):Run D σ (R27 r) (.nrm [.sq zi5,.bk 5,.sq zld,.lp Ly,.bk 4,.sq zaW]) s:=by
 unfold uJ at h
 obtain ⟨h4,h5,h6,h65,h66,h67,h92⟩:=hs
 refine .nsq (zn h92 h (fun h=>?_) (fun h=>?_))
 · refine .seq (rg (g0 nI fun h4=>g0 (jb false) fun h5=>gq (.nsq (.ret ?_))))
   obtain rfl:=oi h
   exact rrB (zo h4) (zo h5) (wY (Y9 (xd (wy (o:=(.nil:NL Int)) (t:=.nl)) (xd (w6 (x:=(false:Bool))) Zr))) (UI (xn QA (xn rfl ZG))))
 refine .skip (.nbk (.nsq (rg (g1 67 (ji (w64 (x108 + 1))) h67 fun h93=>gm h93 fun h67=>gq (.nlp ?_)))))
 exact Hc5 (w64 (x108 + 1)) _ ⟨h4,h5,h6,h65,h66,h67⟩ h
def xf (F:Nat) (x36:LI) (x1:GR) :Nat→Int→Option (LI×Bool)
 | 0,_=>none
 | k + 1,x108=>
   bif decide (x108 < (x1.2.length:Int)) then
    (idx x1.2 x108).bind fun v119=>
    (idx x36 v119.1).bind fun v125=>
    (UD .i64 v125 v119.2).bind fun q126=>
    bif ((yx .i64 q126 1) == 0) then
     (idx x36 v119.2).bind fun v127=>
     (UD .i64 v127 v119.1).bind fun q128=>
     uJ F x36 x1 x108 (xf F x36 x1 k) ((yx .i64 q128 1) == 0)
    else
     uJ F x36 x1 x108 (xf F x36 x1 k) false
   else
    some (x36,true)
theorem zkB (H:H27 D σ F) (x36:LI) (x1:GR) :∀ (k:Nat) (x108:Int) (s:Nat→V),zr [(4,nI),(5,jb false),(6,oI 6 [] (.of x36)),(65,eP x1.2),(66,ji (x1.2.length:Int)),(67,ji x108)] s→xf F x36 x1 k x108=some r→Run D σ (R27 r) (.run Ly [.lp Ly,.bk 4,.sq zaW]) s:=by
 intro k
 induction k with
 | zero=>intro x108 s _ h;exact nm h
 | succ k ih=>
   intro x108 s hs h
   rw [xf] at h
   obtain ⟨h4,h5,h6,h65,h66,h67⟩:=hs
   refine .seq (rg (g2 67 66 (jb (decide (x108 < (x1.2.length:Int)))) h67 h66 fun h68=>gq (.nsq (.seq (zn h68 h (fun h=>?_) (fun h=>?_))))))
   · refine .skip (.nsq (.seq (.block (.seq (zw (z3 ?_))))))
     refine ez [(4,_),(5,_),(6,_),(10,_),(65,_),(66,_),(67,_)] ⟨za h4 rfl rfl,za h5 rfl mb,za h6 rfl (zq (r:=6) (p:=[]) rfl rfl),ze rfl,za h65 rfl me,za h66 rfl mi,za h67 rfl mi⟩ ?_
     rintro s ⟨h4,h5,h6,h10,h65,h66,h67⟩
     obtain ⟨v119,Ev119,h⟩:=zb h
     refine gv (.ref .sh 0 [] (.agg [ji v119.1,ji v119.2])) (yn (t:=.sh) (lo:=0) (xs:=x1.2) h65 h67 Ev119 rfl rfl) fun h69=>g1 69 (.agg [ji v119.1,ji v119.2]) h69 fun h70=>xA h10 (ye (.agg [ji v119.1,ji v119.2]) (zF rfl rfl) (zF h70 rfl) (xN (by first | rfl | simp [V.toks,V.tokss,Enc.toks_enc,yd])) (gz [(4,nI),(5,jb false),(6,oI 6 [] (.of x36)),(10,.ref (.bx 10) 0 [] (.agg [ji v119.1,ji v119.2])),(65,eP x1.2),(66,ji (x1.2.length:Int)),(67,ji x108)] ⟨zd h4 rfl,zd h5 rfl,zd h6 (wH rfl rfl),zd rfl rfl,zd h65 uE,zd h66 rfl,zd h67 rfl⟩ ?_))
     rintro s ⟨h4,h5,h6,h10,h65,h66,h67⟩
     refine .nsq (.seq (rg (gm h6 fun h71=>g1 10 (.ref (.bx 10) 0 [0] (ji v119.1)) h10 fun h72=>g1 72 (ji v119.1) h72 fun h73=>?_)))
     obtain ⟨v125,Ev125,h⟩:=zb h
     refine gv (.ref (.at 6 []) v119.1.toNat [] (ji v125)) (xq (o:=.of x36) h71 h73 Ev125 rfl) fun h74=>g1 74 (ji v125) h74 fun h75=>g1 10 (.ref (.bx 10) 0 [1] (ji v119.2)) h10 fun h76=>g1 76 (ji v119.2) h76 fun h77=>?_
     obtain ⟨q126,Eq126,h⟩:=zb h
     refine gv (ji q126) (Xh h75 h77 Eq126) fun h78=>g1 78 (ji (yx .i64 q126 1)) h78 fun h79=>g1 79 (jb ((yx .i64 q126 1) == 0)) h79 fun h80=>gm h80 fun h81=>z4 h (fun hg11 h=>?_) (fun hg11 h=>?_)
     · refine zm (ct h81 hg11) (gm h6 fun h82=>zm (ct h81 hg11) (g1 10 (.ref (.bx 10) 0 [1] (ji v119.2)) h10 fun h83=>zm (ct h81 hg11) (g1 83 (ji v119.2) h83 fun h84=>?_)))
       obtain ⟨v127,Ev127,h⟩:=zb h
       refine zm (ct h81 hg11) (gv (.ref (.at 6 []) v119.2.toNat [] (ji v127)) (xq (o:=.of x36) h82 h84 Ev127 rfl) fun h85=>zm (ct h81 hg11) (g1 85 (ji v127) h85 fun h86=>zm (ct h81 hg11) (g1 10 (.ref (.bx 10) 0 [0] (ji v119.1)) h10 fun h87=>zm (ct h81 hg11) (g1 87 (ji v119.1) h87 fun h88=>?_))))
       obtain ⟨q128,Eq128,h⟩:=zb h
       refine zm (ct h81 hg11) (gv (ji q128) (Xh h86 h88 Eq128) fun h89=>zm (ct h81 hg11) (g1 89 (ji (yx .i64 q128 1)) h89 fun h90=>zm (ct h81 hg11) (g1 90 (jb ((yx .i64 q128 1) == 0)) h90 fun h91=>g2 81 91 (jb ((yx .i64 q128 1) == 0)) (ct h81 hg11) h91 fun h92=>gq ?_)))
       exact zdu H x36 x1 x108 (xf F x36 x1 k) ih ((yx .i64 q128 1) == 0) _ ⟨h4,h5,h6,h65,h66,h67,h92⟩ h
     iterate 10 refine zR (ct h81 hg11) ?_
     refine g2 81 91 (jb false) (ct h81 hg11) (rf (.tup [])) fun h92=>gq ?_
     exact zdu H x36 x1 x108 (xf F x36 x1 k) ih false _ ⟨h4,h5,h6,h65,h66,h67,h92⟩ h
   refine .exit (.esq (.elp (.ebk (.nsq (.seq (rg (gm h6 fun h94=>gm h94 fun h4=>g0 (jb true) fun h5=>yS (yu (r:=6) (x:=4) (v:=_) h4 rfl (fun s7 hz7=>?_)))))))))
   refine ez [(4,oI 4 [] (.of x36)),(5,jb true)] ⟨hz7 4 _ _ h4 (zq (r:=6) (p:=[]) rfl rfl),hz7 5 _ _ h5 mb⟩ ?_
   rintro s ⟨h4,h5⟩
   refine .nsq (.ret ?_)
   obtain rfl:=oi h
   exact rrB (zo h4) (zo h5) (wY (Y9 (xd (wy (o:=.of x36)) (xd (w6 (x:=(true:Bool))) Zr))) (UI (xn (xD rfl) (xn rfl ZG))))
def yA (F:Nat) (x2:LI) (x1:GR) (mk5:LI) :Nat→LI→Int→Option (LI×Bool)
 | 0,_,_=>none
 | k + 1,x36,x37=>
   bif decide (x37 < (mk5.length:Int)) then
    (idx x2 x37).bind fun v68=>
    yI F x2 x1 x37 mk5 (yA F x2 x1 mk5 k) F x36 v68
   else
    xf F x36 x1 F 0
theorem zih (H:H27 D σ F) (x2:LI) (x1:GR) (mk5:LI) :∀ (k:Nat) (x36:LI) (x37:Int) (s:Nat→V),zr [(1,eL x2),(2,bG 2 x1),(4,nI),(5,jb false),(6,oI 6 [] (.of x36)),(28,ji (mk5.length:Int)),(29,ji x37)] s→yA F x2 x1 mk5 k x36 x37=some r→Run D σ (R27 r) (.run KC [.lp KC,.bk 0,.sq KP]) s:=by
 intro k
 induction k with
 | zero=>intro x36 x37 s _ h;exact nm h
 | succ k ih=>
   intro x36 x37 s hs h
   rw [yA] at h
   obtain ⟨h1,h2,h4,h5,h6,h28,h29⟩:=hs
   refine .seq (rg (g2 29 28 (jb (decide (x37 < (mk5.length:Int)))) h29 h28 fun h30=>gq (.nsq (.seq (zn h30 h (fun h=>?_) (fun h=>?_))))))
   · refine .skip (.nsq (.seq (.block (.seq (rg (gm h29 fun h31=>gm h31 fun h7=>gq (.nsq (.seq (rg (gm h1 fun h32=>gm h7 fun h33=>?_))))))))))
     obtain ⟨v68,Ev68,h⟩:=zb h
     refine gv (.ref .sh 0 [] (ji v68)) (yn (t:=.sh) (lo:=0) (xs:=x2) h32 h33 Ev68 rfl rfl) fun h34=>g1 34 (ji v68) h34 fun h35=>gm h35 fun h8=>gq (.nsq (.block (.loop ?_)))
     exact zjS H x2 x1 x37 mk5 (yA F x2 x1 mk5 k) ih F x36 v68 _ ⟨h1,h2,h4,h5,h6,h7,h8,h28,h29⟩ h
   refine .exit (.esq (.elp (.ebk (.nsq (.seq (.seq (rg (g1 2 (.ref (.bx 2) 0 [1] (eP x1.2)) h2 fun h64=>g1 64 (eP x1.2) h64 fun h65=>gl x1.2 h65 fun h66=>g0 (ji 0) fun h67=>gq (.nsq (.block (.loop ?_)))))))))))
   exact zkB H x36 x1 F 0 _ ⟨h4,h5,h6,h65,h66,h67⟩ h
def vy (F:Nat) (x2:LI) (x1:GR)  (x4:Bool):Option (LI×Bool):=
 bif x4 then
  some ([],false)
 else
  (mkN x1.1 (0:Int)).bind fun mk5=>
  yA F x2 x1 mk5 F mk5 0
theorem zdg (H:H27 D σ F) (x2:LI) (x1:GR)  (x4:Bool) (s:Nat→V) (hs:zr [(1,eL x2),(2,bG 2 x1),(4,nI),(5,jb false),(23,jb x4)] s) (h:vy F x2 x1  x4=some r):Run D σ (R27 r) (.nrm [.sq zjf,.sq zir]) s:=by
 unfold vy at h
 obtain ⟨h1,h2,h4,h5,h23⟩:=hs
 refine .nsq (zn h23 h (fun h=>?_) (fun h=>?_))
 · refine .seq (rg (g0 nI fun h4=>g0 (jb false) fun h5=>gq (.nsq (.ret ?_))))
   obtain rfl:=oi h
   exact rrB (zo h4) (zo h5) (wY (Y9 (xd (wy (o:=(.nil:NL Int)) (t:=.nl)) (xd (w6 (x:=(false:Bool))) Zr))) (UI (xn QA (xn rfl ZG))))
 refine .skip (.nsq (.seq (zw (z3 ?_))))
 refine ez [(1,_),(2,_),(4,_),(5,_),(26,_)] ⟨za h1 rfl me,za h2 rfl (zj rfl mIE),za h4 rfl rfl,za h5 rfl mb,ze rfl⟩ ?_
 rintro s ⟨h1,h2,h4,h5,h26⟩
 refine g1 2 (.ref (.bx 2) 0 [0] (ji x1.1)) h2 fun h24=>g1 24 (ji x1.1) h24 fun h25=>?_
 obtain ⟨mk5,Emk5,h⟩:=zb h
 refine zdz (0:Int) h25 rfl h26 Emk5 (gm (rf (oI 26 [] (.of mk5))) fun h6=>yS (yu (r:=26) (x:=6) (v:=_) h6 rfl (fun s3 hz3=>?_)))
 refine ez [(1,eL x2),(2,bG 2 x1),(4,nI),(5,jb false),(6,oI 6 [] (.of mk5))] ⟨hz3 1 _ _ h1 me,hz3 2 _ _ h2 (zj rfl mIE),hz3 4 _ _ h4 rfl,hz3 5 _ _ h5 mb,hz3 6 _ _ h6 (zq (r:=26) (p:=[]) rfl rfl)⟩ ?_
 rintro s ⟨h1,h2,h4,h5,h6⟩
 refine .nsq (.seq (.seq (rg (gm h6 fun h27=>gv (ji (mk5.length:Int)) (Uk (o:=.of mk5) h27) fun h28=>g0 (ji 0) fun h29=>gq (.nsq (.block (.loop ?_)))))))
 exact zih H x2 x1 mk5 F mk5 0 _ ⟨h1,h2,h4,h5,h6,h28,h29⟩ h
def vt (F:Nat) (x1:GR) (x2:LI):Option (LI×Bool):=
 bif ((x2.length:Int) != x1.1) then
  vy F x2 x1 true
 else
  (ZV F x2 (-1) (w64 (x1.1 - 1))).bind fun r129=>
  vy F x2 x1 (!r129)
theorem t27 (H:H27 D σ F) (x1:GR) (x2:LI) (s:Nat→V) (hs:zr [(0,gV x1),(1,eL x2)] s) (h:vt F x1 x2=some r):Run D σ (R27 r) (.run A27 []) s:=by
 unfold vt at h
 obtain ⟨h0,h1⟩:=hs
 refine .seq (zw (z3 ?_))
 refine ez [(0,_),(1,_),(2,_)] ⟨za h0 rfl mIE,za h1 rfl me,ze rfl⟩ ?_
 rintro s ⟨h0,h1,h2⟩
 refine xo (gV x1) (zF h0 rfl) h2 rfl (g0 nI fun h4=>g0 (jb false) fun h5=>gq (.nsq (.seq (.seq (rg (gm h1 fun h11=>gl x2 h11 fun h12=>g1 2 (.ref (.bx 2) 0 [0] (ji x1.1)) (rf (bG 2 x1)) fun h13=>g1 13 (ji x1.1) h13 fun h14=>g2 12 14 (jb ((x2.length:Int) != x1.1)) h12 h14 fun h15=>gm h15 fun h16=>z4 h (fun hg6 h=>?_) (fun hg6 h=>?_)))))))
 · iterate 6 refine zR (ct h16 hg6) ?_
   refine g2 16 22 (jb true) (ct h16 hg6) (rf (.tup [])) fun h23=>gq ?_
   exact zdg H x2 x1 true _ ⟨h1,rfl,h4,h5,h23⟩ h
 refine zm (ct h16 hg6) (gm h1 fun h17=>zm (ct h16 hg6) (g1 2 (.ref (.bx 2) 0 [0] (ji x1.1)) (rf (bG 2 x1)) fun h18=>zm (ct h16 hg6) (g1 18 (ji x1.1) h18 fun h19=>zm (ct h16 hg6) (g1 19 (ji (w64 (x1.1 - 1))) h19 fun h20=>?_))))
 obtain ⟨r129,Er129,h⟩:=zb h
 refine zm (ct h16 hg6) (gcF [eL x2,Enc.enc ((-1):Int),Enc.enc (w64 (x1.1 - 1):Int)] (zf h17 rfl (Enc.erase_enc (x2:LI)) (zf (v:=ji (-1)) rfl rfl rfl (zf h20 rfl rfl zA))) (H.c51 _ _ _ _ Er129) H.g51 (zm (ct h16 hg6) (g1 21 (jb (!r129)) (rf (jb r129)) fun h22=>g2 16 22 (jb (!r129)) (ct h16 hg6) h22 fun h23=>gq ?_)))
 exact zdg H x2 x1 (!r129) _ ⟨h1,rfl,h4,h5,h23⟩ h
end
def e27 (F:Nat):Ent:=ent 27 (fun (x:(GR×LI×Unit))=>vt F x.1 x.2.1) (fun (r:(LI×Bool))=>(.tup [eL r.1,Enc.enc (r.2:Bool)])) 0 false []
abbrev C27 (D:List V→Option V) (F:Nat):Prop:=∀ (x0:GR) (x1:LI) r,vt F x0 x1=some r→D [Enc.enc x0,Enc.enc x1]=some (.tup [eL r.1,Enc.enc (r.2:Bool)])
theorem p27 {F:Nat}:C27 (e27 F).den F:=fun x0 x1 _ h=>zU (x0,x1,()) h
theorem o27 (hF:zG Try.prog D σ) (H:H27 D σ F):(e27 F).Ok Try.prog:=okZ (f:=27) Try.func27 fun ⟨x0,x1,_⟩ y hy=>cR hF Try.func27 c27 (t27 H x0 x1 _ ⟨rfl,rfl⟩ hy)
def zxo:AC:=(.cond (.t 10) (.seq (rr [jv 4 (.mov kf),jv 5 (.mov kf)]) .ret) .skip)
def zxi:AC:=(.seq (rr [jm 17 7,jm 4 17,jv 5 (.mov kt)]) .ret)
def zvZ:AC:=(.seq (rr [jv 12 (.load (.ag [.s,.p]) (.t 2)),jm 13 1,jx 14 (.call (jf 27) [.t 12,.t 13]),jm 11 14,jv 15 (.ext (.t 11) 0),jv 16 (.extS (.t 11) 1),jm 6 15,jm 7 16]) zxi)
def zwj:AC:=(.seq (.seq (rr [jv 8 (.load (.ag [.s,.p]) (.t 2)),jx 9 (.call (jf 26) [.t 8]),jv 10 (.un .not (.t 9))]) zxo) zvZ)
def A6:AC:=(.seq (.reg [.clr [2]] [jx 2 (.box (.t 0)),jv 4 (.mov kf),jv 5 (.mov kf)] []) zwj)
def an6:List An:=[⟨0,[.clr [2]],[],[],[]⟩]
theorem c6:cq Try.prog Try.f6 an6=some A6:=by kernel_rfl
structure H6 (D:Den) (σ:Sig) (F:Nat):Prop where
 c26:C26 (D 26) F
 g26:σ 26=some (0,false)
 c27:C27 (D 27) F
 g27:σ 27=some (0,false)
abbrev R6 (r:(Bool×Bool)):(Nat→V)→Prop:=RR Try.prog [.tmp 4,.tmp 5] 0 false (.tup [Enc.enc (r.1:Bool),Enc.enc (r.2:Bool)])
section
variable {r:(Bool×Bool)}
def YN (F:Nat) (x1:GR) (x2:LI):Option (Bool×Bool):=
 (vh F x1).bind fun r3=>
 bif (!r3) then
  some (false,false)
 else
  (vt F x1 x2).bind fun r4=>
  some (r4.2,true)
theorem t6 (H:H6 D σ F) (x1:GR) (x2:LI) (s:Nat→V) (hs:zr [(0,gV x1),(1,eL x2)] s) (h:YN F x1 x2=some r):Run D σ (R6 r) (.run A6 []) s:=by
 unfold YN at h
 obtain ⟨h0,h1⟩:=hs
 refine .seq (zw (z3 ?_))
 refine ez [(0,_),(1,_),(2,_)] ⟨za h0 rfl mIE,za h1 rfl me,ze rfl⟩ ?_
 rintro s ⟨h0,h1,h2⟩
 refine xo (gV x1) (zF h0 rfl) h2 rfl (g0 (jb false) fun h4=>g0 (jb false) fun h5=>gq (.nsq (.seq (.seq (rg (g1 2 (gV x1) (rf (bG 2 x1)) fun h8=>?_))))))
 obtain ⟨r3,Er3,h⟩:=zb h
 refine gcF [Enc.enc (x1:GR)] (zf h8 rfl (Enc.erase_enc (x1:GR)) zA) (H.c26 _ _ Er3) H.g26 (g1 9 (jb (!r3)) (rf (jb r3)) fun h10=>gq (.nsq (zn h10 h (fun h=>?_) (fun h=>?_))))
 · refine .seq (rg (g0 (jb false) fun h4=>g0 (jb false) fun h5=>gq (.nsq (.ret ?_))))
   obtain rfl:=oi h
   exact rrB (zo h4) (zo h5) rfl
 refine .skip (.nsq (.seq (rg (g1 2 (gV x1) (rf (bG 2 x1)) fun h12=>gm h1 fun h13=>?_))))
 obtain ⟨r4,Er4,h⟩:=zb h
 refine gcF [Enc.enc (x1:GR),eL x2] (zf h12 rfl (Enc.erase_enc (x1:GR)) (zf h13 rfl (Enc.erase_enc (x2:LI)) zA)) (H.c27 _ _ _ Er4) H.g27 (gm (rf (.tup [eL r4.1,jb r4.2])) fun h11=>g1 11 (eL r4.1) h11 fun h15=>g1 11 (jb r4.2) h11 fun h16=>gm h15 fun h6=>gm h16 fun h7=>gq (.nsq (.seq (rg (gm h7 fun h17=>gm h17 fun h4=>g0 (jb true) fun h5=>gq (.nsq (.ret ?_)))))))
 obtain rfl:=oi h
 exact rrB (zo h4) (zo h5) rfl
end
def e6 (F:Nat):Ent:=ent 6 (fun (x:(GR×LI×Unit))=>YN F x.1 x.2.1) (fun (r:(Bool×Bool))=>(.tup [Enc.enc (r.1:Bool),Enc.enc (r.2:Bool)])) 0 false []
abbrev C6 (D:List V→Option V) (F:Nat):Prop:=∀ (x0:GR) (x1:LI) r,YN F x0 x1=some r→D [Enc.enc x0,Enc.enc x1]=some (.tup [Enc.enc (r.1:Bool),Enc.enc (r.2:Bool)])
theorem p6 {F:Nat}:C6 (e6 F).den F:=fun x0 x1 _ h=>zU (x0,x1,()) h
theorem o6 (hF:zG Try.prog D σ) (H:H6 D σ F):(e6 F).Ok Try.prog:=okZ (f:=6) Try.func6 fun ⟨x0,x1,_⟩ y hy=>cR hF Try.func6 c6 (t6 H x0 x1 _ ⟨rfl,rfl⟩ hy)
def zni:AC:=(.cond (.t 18) .skip (.exit 0))
def zu8:AC:=(.reg [.clr [25,26]] [jm 23 5,jm 24 1,jx 25 (.lit i0 1 [(0,0,.t 24)]),jx 26 (.app .s (.t 23) (.t 25)),jm 5 26] [.home 26 5])
def zmU:AC:=(.block 1 (.seq (rr [jm 19 0,jm 20 1,jv 21 (.idx (.t 19) (.t 20) 1),jl 22 21,jm 1 22]) zu8))
def zao:AC:=(.seq (.seq (rr [jm 7 0,jm 8 1,jv 9 (.idx (.t 7) (.t 8) 1),jl 10 9,jv 11 (.bin .geq (.t 10) (jn 0)),jm 12 11,jg 13 12 true (.mov (.t 5)),jg 14 12 true (.len (.t 13)),jg 15 12 true (.mov (.t 0)),jg 16 12 true (.len (.t 15)),jg 17 12 true (.bin .leq (.t 14) (.t 16)),jv 18 (.pick (.t 12) (.t 17) kf)]) zni) zmU)
def zgk:AC:=(.seq (.reg [] [jm 27 5,jm 4 27] [.home 5 4]) .ret)
def zvI:AC:=(.seq (.block 0 (.loop zao)) zgk)
def ztL:AC:=(.seq (.reg [.clr [6]] [jx 6 (.lit i0 0 []),jm 5 6] [.home 6 5]) zvI)
def A32:AC:=(.seq (rr [jv 4 (.mov (.k (.sl .nl .s 0 [])))]) ztL)
def zwM:List An:=[⟨1,[.clr [6]],[],[],[.home 6 5]⟩,⟨4,[.clr [25,26]],[],[],[.home 26 5]⟩,⟨5,[],[],[],[.home 5 4]⟩]
theorem c32:cq Try.prog Try.f32 zwM=some A32:=by kernel_rfl
structure H32 (D:Den) (σ:Sig) (F:Nat):Prop where
 mk ::
abbrev R32 (r:LI):(Nat→V)→Prop:=RR Try.prog [.tmp 4] 0 false (eL r)
section
variable {r:LI}
def Ya (F:Nat) (x1:LI) (x8:Int) (x9:LI) (c1:Int→LI→Option LI) (x16:Bool):Option LI:=
 bif x16 then
  (idx x1 x8).bind fun v17=>
  (uQ x9 [v17]).bind fun ap18=>
  c1 v17 ap18
 else
  some x9
theorem zde (H:H32 D σ F) (x1:LI) (x8:Int) (x9:LI) (c1:Int→LI→Option LI) (Hc1:∀ (x8:Int) (x9:LI) (s:Nat→V),zr [(0,eL x1),(1,ji x8),(4,nI),(5,oI 5 [] (.of x9))] s→c1 x8 x9=some r→Run D σ (R32 r) (.run zao [.lp zao,.bk 0,.sq zgk]) s) (x16:Bool) (s:Nat→V) (hs:zr [(0,eL x1),(1,ji x8),(4,nI),(5,oI 5 [] (.of x9)),(18,jb x16)] s) (h:Ya F x1 x8 x9 c1 x16=some r):Run D σ (R32 r) (.nrm [.sq zni,.sq zmU,.lp zao,.bk 0,.sq zgk]) s:=by
 unfold Ya at h
 obtain ⟨h0,h1,h4,h5,h18⟩:=hs
 refine .nsq (zn h18 h (fun h=>?_) (fun h=>?_))
 · refine .skip (.nsq (.block (.seq (rg (gm h0 fun h19=>gm h1 fun h20=>?_)))))
   obtain ⟨v17,Ev17,h⟩:=zb h
   refine gv (.ref .sh 0 [] (ji v17)) (yn (t:=.sh) (lo:=0) (xs:=x1) h19 h20 Ev17 rfl rfl) fun h21=>g1 21 (ji v17) h21 fun h22=>gm h22 fun h1=>gq (.nsq (zw (z3 ?_)))
   refine ez [(0,_),(1,_),(4,_),(5,_),(25,_),(26,_)] ⟨za h0 rfl me,za h1 rfl mi,za h4 rfl rfl,za h5 rfl (zq (r:=5) (p:=[]) rfl rfl),ze rfl,ze rfl⟩ ?_
   rintro s ⟨h0,h1,h4,h5,h25,h26⟩
   refine gm h5 fun h23=>gm h1 fun h24=>xI [(24,ji v17)] [Enc.enc (v17:Int)] h24 rfl rfl h25 ?_
   obtain ⟨ap18,Eap18,h⟩:=zb h
   refine XR (q:=5) (p:=[]) (o:=.of (x9:LI)) (ys:=([v17]:LI)) (t2:=.at 25 []) (lo2:=0) h23 rfl rfl h26 (Z4 (o:=.of (x9:LI)) Eap18 trivial) (fun s10 ha10=>gm (rf (oI 26 [] (.of ap18))) fun h5=>yS (yu (r:=26) (x:=5) (v:=_) h5 rfl (fun s11 hz11=>?_)))
   refine ez [(0,eL x1),(1,ji v17),(4,nI),(5,oI 5 [] (.of ap18))] ⟨hz11 0 _ _ (show s10 0=(eL x1) from yh ha10 h0 me) me,hz11 1 _ _ (show s10 1=(ji v17) from yh ha10 h1 mi) mi,hz11 4 _ nI (show s10 4=nI from yh ha10 h4 rfl) rfl,hz11 5 _ _ h5 (zq (r:=26) (p:=[]) rfl rfl)⟩ ?_
   rintro s ⟨h0,h1,h4,h5⟩
   refine .nbk (.nlp ?_)
   exact Hc1 v17 ap18 _ ⟨h0,h1,h4,h5⟩ h
 refine .exit (.esq (.elp (.ebk (.nsq (.seq (rg (gm h5 fun h27=>gm h27 fun h4=>yS (yu (r:=5) (x:=4) (v:=_) h4 rfl (fun s12 hz12=>?_)))))))))
 refine ez [(4,oI 4 [] (.of x9))] (hz12 4 _ _ h4 (zq (r:=5) (p:=[]) rfl rfl)) ?_
 rintro s h4
 refine .nsq (.ret ?_)
 obtain rfl:=oi h
 exact rrA (zo h4) (wY (wy (o:=.of x9)) (xD rfl))
def wO (F:Nat) (x1:LI) :Nat→Int→LI→Option LI
 | 0,_,_=>none
 | k + 1,x8,x9=>
   (idx x1 x8).bind fun v19=>
   bif decide (v19≥0) then
    Ya F x1 x8 x9 (wO F x1 k) (decide ((x9.length:Int)≤(x1.length:Int)))
   else
    Ya F x1 x8 x9 (wO F x1 k) false
theorem zjw (H:H32 D σ F) (x1:LI) :∀ (k:Nat) (x8:Int) (x9:LI) (s:Nat→V),zr [(0,eL x1),(1,ji x8),(4,nI),(5,oI 5 [] (.of x9))] s→wO F x1 k x8 x9=some r→Run D σ (R32 r) (.run zao [.lp zao,.bk 0,.sq zgk]) s:=by
 intro k
 induction k with
 | zero=>intro x8 x9 s _ h;exact nm h
 | succ k ih=>
   intro x8 x9 s hs h
   rw [wO] at h
   obtain ⟨h0,h1,h4,h5⟩:=hs
   refine .seq (.seq (rg (gm h0 fun h7=>gm h1 fun h8=>?_)))
   obtain ⟨v19,Ev19,h⟩:=zb h
   refine gv (.ref .sh 0 [] (ji v19)) (yn (t:=.sh) (lo:=0) (xs:=x1) h7 h8 Ev19 rfl rfl) fun h9=>g1 9 (ji v19) h9 fun h10=>g1 10 (jb (decide (v19≥0))) h10 fun h11=>gm h11 fun h12=>z4 h (fun hg6 h=>?_) (fun hg6 h=>?_)
   · refine zm (ct h12 hg6) (gm h5 fun h13=>zm (ct h12 hg6) (gv (ji (x9.length:Int)) (Uk (o:=.of x9) h13) fun h14=>zm (ct h12 hg6) (gm h0 fun h15=>zm (ct h12 hg6) (gl x1 h15 fun h16=>zm (ct h12 hg6) (g2 14 16 (jb (decide ((x9.length:Int)≤(x1.length:Int)))) h14 h16 fun h17=>g2 12 17 (jb (decide ((x9.length:Int)≤(x1.length:Int)))) (ct h12 hg6) h17 fun h18=>gq ?_)))))
     exact zde H x1 x8 x9 (wO F x1 k) ih (decide ((x9.length:Int)≤(x1.length:Int))) _ ⟨h0,h1,h4,h5,h18⟩ h
   iterate 5 refine zR (ct h12 hg6) ?_
   refine g2 12 17 (jb false) (ct h12 hg6) (rf (.tup [])) fun h18=>gq ?_
   exact zde H x1 x8 x9 (wO F x1 k) ih false _ ⟨h0,h1,h4,h5,h18⟩ h
def ZF (F:Nat) (x1:LI) (x2:Int):Option LI:=
 wO F x1 F x2 []
theorem t32 (H:H32 D σ F) (x1:LI) (x2:Int) (s:Nat→V) (hs:zr [(0,eL x1),(1,ji x2)] s) (h:ZF F x1 x2=some r):Run D σ (R32 r) (.run A32 []) s:=by
 unfold ZF at h
 obtain ⟨h0,h1⟩:=hs
 refine .seq (rg (g0 nI fun h4=>gq (.nsq (.seq (zw (z3 ?_))))))
 refine ez [(0,_),(1,_),(4,_),(6,_)] ⟨za h0 rfl me,za h1 rfl mi,za h4 rfl rfl,ze rfl⟩ ?_
 rintro s ⟨h0,h1,h4,h6⟩
 refine xI [] [] trivial rfl rfl h6 (gm (rf (oI 6 [] (.of []))) fun h5=>yS (yu (r:=6) (x:=5) (v:=_) h5 rfl (fun s2 hz2=>?_)))
 refine ez [(0,eL x1),(1,ji x2),(4,nI),(5,oI 5 [] (.of []))] ⟨hz2 0 _ _ h0 me,hz2 1 _ _ h1 mi,hz2 4 _ _ h4 rfl,hz2 5 _ _ h5 (zq (r:=6) (p:=[]) rfl rfl)⟩ ?_
 rintro s ⟨h0,h1,h4,h5⟩
 refine .nsq (.seq (.block (.loop ?_)))
 exact zjw H x1 F x2 [] _ ⟨h0,h1,h4,h5⟩ h
end
def e32 (F:Nat):Ent:=ent 32 (fun (x:(LI×Int×Unit))=>ZF F x.1 x.2.1) (fun (r:LI)=>(eL r)) 0 false []
abbrev C32 (D:List V→Option V) (F:Nat):Prop:=∀ (x0:LI) (x1:Int) r,ZF F x0 x1=some r→D [Enc.enc x0,Enc.enc x1]=some (eL r)
theorem p32 {F:Nat}:C32 (e32 F).den F:=fun x0 x1 _ h=>zU (x0,x1,()) h
theorem o32 (hF:zG Try.prog D σ) (H:H32 D σ F):(e32 F).Ok Try.prog:=okZ (f:=32) Try.func32 fun ⟨x0,x1,_⟩ y hy=>cR hF Try.func32 c32 (t32 H x0 x1 _ ⟨rfl,rfl⟩ hy)
def zqQ:AC:=(.cond (.t 47) .skip (.exit 4))
def zms:AC:=(.cond (.t 75) (.seq (rr [jv 4 (.mov kf)]) .ret) .skip)
def zte:AC:=(.seq (rr [jm 62 1,jm 63 8,jx 64 (.call (jf 32) [.t 62,.t 63]),jm 65 9,jx 66 (.call (jf 53) [.t 64,.t 65]),jv 67 (.un .not (.t 66)),jm 68 67,jg 69 68 true (.mov (.t 1)),jg 70 68 true (.mov (.t 9)),.mk (some 71) (some (68,true)) false (.call (jf 32) [.t 69,.t 70]),jg 72 68 true (.mov (.t 8)),.mk (some 73) (some (68,true)) false (.call (jf 53) [.t 71,.t 72]),jg 74 68 true (.un .not (.t 73)),jv 75 (.pick (.t 68) (.t 74) kf)]) zms)
def zmY:AC:=(rr [jm 48 7,jv 49 (.bin .add (.t 48) (jn 1)),jm 7 49])
def zs6:AC:=(.seq (.block 5 (.seq (rr [jv 50 (.fld (.t 2) 1 1),jv 51 (.load .p (.t 50)),jm 52 7,jv 53 (.idx (.t 51) (.t 52) 2),jv 54 (.idxA (.t 53) (jn 0) 2 1),jl 55 54,jv 56 (.fld (.t 2) 1 1),jv 57 (.load .p (.t 56)),jm 58 7,jv 59 (.idx (.t 57) (.t 58) 2),jv 60 (.idxA (.t 59) (jn 1) 2 1),jl 61 60,jm 8 55,jm 9 61]) zte)) zmY)
def QM:AC:=(.seq (.seq (rr [jm 43 7,jv 44 (.fld (.t 2) 1 1),jv 45 (.load .p (.t 44)),jk 46 45,jv 47 (.bin .lss (.t 43) (.t 46))]) zqQ) zs6)
def zhf:AC:=(.seq (rr [jv 4 (.mov kt)]) .ret)
def zuZ:AC:=(.cond (.t 33) .skip (.exit 2))
def zoV:AC:=(.cond (.t 42) (.seq (rr [jv 4 (.mov kf)]) .ret) .skip)
def zn7:AC:=(rr [jm 34 6,jv 35 (.bin .add (.t 34) (jn 1)),jm 6 35])
def znt:AC:=(.seq (.block 3 (.seq (rr [jm 36 1,jm 37 6,jx 38 (.call (jf 32) [.t 36,.t 37]),jk 39 38,jv 40 (.fld (.t 2) 0 0),jl 41 40,jv 42 (.bin .geq (.t 39) (.t 41))]) zoV)) zn7)
def ziz:AC:=(.seq (.seq (rr [jm 30 6,jv 31 (.fld (.t 2) 0 0),jl 32 31,jv 33 (.bin .lss (.t 30) (.t 32))]) zuZ) znt)
def zpk:AC:=(.block 4 (.loop QM))
def ziZ:AC:=(.seq (.seq (rr [jv 7 (.mov (jn 0))]) zpk) zhf)
def zpA:AC:=(.cond (.t 18) .skip (.exit 0))
def znI:AC:=(.cond (.t 29) (.seq (rr [jv 4 (.mov kf)]) .ret) .skip)
def zny:AC:=(rr [jm 19 5,jv 20 (.bin .add (.t 19) (jn 1)),jm 5 20])
def zpg:AC:=(.seq (.block 1 (.seq (rr [jm 21 1,jm 22 5,jv 23 (.idx (.t 21) (.t 22) 1),jl 24 23,jv 25 (.fld (.t 2) 0 0),jl 26 25,jv 27 (.bin .sub (.t 26) (jn 1)),jx 28 (.call (jf 41) [.t 24,jn (-1),.t 27]),jv 29 (.un .not (.t 28))]) znI)) zny)
def zeJ:AC:=(.seq (.seq (rr [jm 15 5,jv 16 (.fld (.t 2) 0 0),jl 17 16,jv 18 (.bin .lss (.t 15) (.t 17))]) zpA) zpg)
def znV:AC:=(.block 2 (.loop ziz))
def zjG:AC:=(.seq (.seq (rr [jv 6 (.mov (jn 0))]) znV) ziZ)
def zoZ:AC:=(.cond (.t 14) (.seq (rr [jv 4 (.mov kf)]) .ret) .skip)
def zpu:AC:=(.block 0 (.loop zeJ))
def zoj:AC:=(.seq (.seq (rr [jv 5 (.mov (jn 0))]) zpu) zjG)
def zpF:AC:=(.seq (.seq (rr [jm 10 1,jk 11 10,jv 12 (.fld (.t 2) 0 0),jl 13 12,jv 14 (.bin .neq (.t 11) (.t 13))]) zoZ) zoj)
def A29:AC:=(.seq (.reg [.clr [2]] [jx 2 (.box (.t 0)),jv 4 (.mov kf)] []) zpF)
def zwY:List An:=[⟨0,[.clr [2]],[],[],[]⟩]
theorem c29:cq Try.prog Try.f29 zwY=some A29:=by kernel_rfl
structure H29 (D:Den) (σ:Sig) (F:Nat):Prop where
 c41:C41 (D 41) F
 g41:σ 41=some (0,false)
 c32:C32 (D 32) F
 g32:σ 32=some (0,false)
 c53:C53 (D 53) F
 g53:σ 53=some (0,false)
abbrev R29 (r:Bool):(Nat→V)→Prop:=RR Try.prog [.tmp 4] 0 false (Enc.enc (r:Bool))
section
variable {r:Bool}
def Yn (F:Nat) (x2:LI) (x1:GR) (x25:Int) (c3:Int→Option Bool) (x43:Bool):Option Bool:=
 bif x43 then
  some false
 else
  c3 (w64 (x25 + 1))
theorem zdX (H:H29 D σ F) (x2:LI) (x1:GR) (x25:Int) (c3:Int→Option Bool) (Hc3:∀ (x25:Int) (s:Nat→V),zr [(1,eL x2),(2,bG 2 x1),(4,jb false),(7,ji x25)] s→c3 x25=some r→Run D σ (R29 r) (.run QM [.lp QM,.bk 4,.sq zhf]) s) (x43:Bool) (s:Nat→V) (hs:zr [(1,eL x2),(2,bG 2 x1),(4,jb false),(7,ji x25),(75,jb x43)] s) (h:Yn F x2 x1 x25 c3 x43=some r):Run D σ (R29 r) (.nrm [.sq zms,.bk 5,.sq zmY,.lp QM,.bk 4,.sq zhf]) s:=by
 unfold Yn at h
 obtain ⟨h1,h2,h4,h7,h75⟩:=hs
 refine .nsq (zn h75 h (fun h=>?_) (fun h=>?_))
 · refine .seq (rg (g0 (jb false) fun h4=>gq (.nsq (.ret ?_))))
   obtain rfl:=oi h
   exact rrA (zo h4) rfl
 refine .skip (.nbk (.nsq (rg (gm h7 fun h48=>g1 48 (ji (w64 (x25 + 1))) h48 fun h49=>gm h49 fun h7=>gq (.nlp ?_)))))
 exact Hc3 (w64 (x25 + 1)) _ ⟨h1,h2,h4,h7⟩ h
def xF (F:Nat) (x2:LI) (x1:GR) :Nat→Int→Option Bool
 | 0,_=>none
 | k + 1,x25=>
   bif decide (x25 < (x1.2.length:Int)) then
    (idx x1.2 x25).bind fun v37=>
    (idx x1.2 x25).bind fun v38=>
    (ZF F x2 v37.1).bind fun r44=>
    (Yz F r44 v38.2).bind fun r45=>
    bif (!r45) then
     (ZF F x2 v38.2).bind fun r46=>
     (Yz F r46 v37.1).bind fun r47=>
     Yn F x2 x1 x25 (xF F x2 x1 k) (!r47)
    else
     Yn F x2 x1 x25 (xF F x2 x1 k) false
   else
    some true
theorem zjB (H:H29 D σ F) (x2:LI) (x1:GR) :∀ (k:Nat) (x25:Int) (s:Nat→V),zr [(1,eL x2),(2,bG 2 x1),(4,jb false),(7,ji x25)] s→xF F x2 x1 k x25=some r→Run D σ (R29 r) (.run QM [.lp QM,.bk 4,.sq zhf]) s:=by
 intro k
 induction k with
 | zero=>intro x25 s _ h;exact nm h
 | succ k ih=>
   intro x25 s hs h
   rw [xF] at h
   obtain ⟨h1,h2,h4,h7⟩:=hs
   refine .seq (.seq (rg (gm h7 fun h43=>g1 2 (.ref (.bx 2) 0 [1] (eP x1.2)) h2 fun h44=>g1 44 (eP x1.2) h44 fun h45=>gl x1.2 h45 fun h46=>g2 43 46 (jb (decide (x25 < (x1.2.length:Int)))) h43 h46 fun h47=>gq (.nsq (zn h47 h (fun h=>?_) (fun h=>?_))))))
   · refine .skip (.nsq (.seq (.block (.seq (rg (g1 2 (.ref (.bx 2) 0 [1] (eP x1.2)) h2 fun h50=>g1 50 (eP x1.2) h50 fun h51=>gm h7 fun h52=>?_))))))
     obtain ⟨v37,Ev37,h⟩:=zb h
     refine gv (.ref .sh 0 [] (.agg [ji v37.1,ji v37.2])) (yn (t:=.sh) (lo:=0) (xs:=x1.2) h51 h52 Ev37 rfl rfl) fun h53=>g1 53 (.ref .sh 0 [0] (ji v37.1)) h53 fun h54=>g1 54 (ji v37.1) h54 fun h55=>g1 2 (.ref (.bx 2) 0 [1] (eP x1.2)) h2 fun h56=>g1 56 (eP x1.2) h56 fun h57=>gm h7 fun h58=>?_
     obtain ⟨v38,Ev38,h⟩:=zb h
     refine gv (.ref .sh 0 [] (.agg [ji v38.1,ji v38.2])) (yn (t:=.sh) (lo:=0) (xs:=x1.2) h57 h58 Ev38 rfl rfl) fun h59=>g1 59 (.ref .sh 0 [1] (ji v38.2)) h59 fun h60=>g1 60 (ji v38.2) h60 fun h61=>gm h55 fun h8=>gm h61 fun h9=>gz [(1,_),(2,_),(4,_),(7,_),(8,_),(9,_)] ⟨h1,h2,h4,h7,h8,h9⟩ ?_
     rintro s ⟨h1,h2,h4,h7,h8,h9⟩
     refine .nsq (.seq (rg (gm h1 fun h62=>gm h8 fun h63=>?_)))
     obtain ⟨r44,Er44,h⟩:=zb h
     refine gcF [eL x2,Enc.enc (v37.1:Int)] (zf h62 rfl (Enc.erase_enc (x2:LI)) (zf h63 rfl rfl zA)) (H.c32 _ _ _ Er44) H.g32 (gm h9 fun h65=>?_)
     obtain ⟨r45,Er45,h⟩:=zb h
     refine gcF [eL r44,Enc.enc (v38.2:Int)] (zf (v:=eL r44) rfl rfl (Enc.erase_enc (r44:LI)) (zf h65 rfl rfl zA)) (H.c53 _ _ _ Er45) H.g53 (g1 66 (jb (!r45)) (rf (jb r45)) fun h67=>gm h67 fun h68=>z4 h (fun hg7 h=>?_) (fun hg7 h=>?_))
     · refine zm (ct h68 hg7) (gm h1 fun h69=>zm (ct h68 hg7) (gm h9 fun h70=>?_))
       obtain ⟨r46,Er46,h⟩:=zb h
       refine zm (ct h68 hg7) (gcF [eL x2,Enc.enc (v38.2:Int)] (zf h69 rfl (Enc.erase_enc (x2:LI)) (zf h70 rfl rfl zA)) (H.c32 _ _ _ Er46) H.g32 (zm (ct h68 hg7) (gm h8 fun h72=>?_)))
       obtain ⟨r47,Er47,h⟩:=zb h
       refine zm (ct h68 hg7) (gcF [eL r46,Enc.enc (v37.1:Int)] (zf (v:=eL r46) rfl rfl (Enc.erase_enc (r46:LI)) (zf h72 rfl rfl zA)) (H.c53 _ _ _ Er47) H.g53 (zm (ct h68 hg7) (g1 73 (jb (!r47)) (rf (jb r47)) fun h74=>g2 68 74 (jb (!r47)) (ct h68 hg7) h74 fun h75=>gq ?_)))
       exact zdX H x2 x1 x25 (xF F x2 x1 k) ih (!r47) _ ⟨h1,h2,h4,h7,h75⟩ h
     iterate 6 refine zR (ct h68 hg7) ?_
     refine g2 68 74 (jb false) (ct h68 hg7) (rf (.tup [])) fun h75=>gq ?_
     exact zdX H x2 x1 x25 (xF F x2 x1 k) ih false _ ⟨h1,h2,h4,h7,h75⟩ h
   refine .exit (.esq (.elp (.ebk (.nsq (.seq (rg (g0 (jb true) fun h4=>gq (.nsq (.ret ?_)))))))))
   obtain rfl:=oi h
   exact rrA (zo h4) rfl
def vv (F:Nat) (x2:LI) (x1:GR) :Nat→Int→Option Bool
 | 0,_=>none
 | k + 1,x11=>
   bif decide (x11 < x1.1) then
    (ZF F x2 x11).bind fun r13=>
    bif decide ((r13.length:Int)≥x1.1) then
     some false
    else
     (vv F x2 x1 k) (w64 (x11 + 1))
   else
    xF F x2 x1 F 0
theorem zk8 (H:H29 D σ F) (x2:LI) (x1:GR) :∀ (k:Nat) (x11:Int) (s:Nat→V),zr [(1,eL x2),(2,bG 2 x1),(4,jb false),(6,ji x11)] s→vv F x2 x1 k x11=some r→Run D σ (R29 r) (.run ziz [.lp ziz,.bk 2,.sq ziZ]) s:=by
 intro k
 induction k with
 | zero=>intro x11 s _ h;exact nm h
 | succ k ih=>
   intro x11 s hs h
   rw [vv] at h
   obtain ⟨h1,h2,h4,h6⟩:=hs
   refine .seq (.seq (rg (gm h6 fun h30=>g1 2 (.ref (.bx 2) 0 [0] (ji x1.1)) h2 fun h31=>g1 31 (ji x1.1) h31 fun h32=>g2 30 32 (jb (decide (x11 < x1.1))) h30 h32 fun h33=>gq (.nsq (zn h33 h (fun h=>?_) (fun h=>?_))))))
   · refine .skip (.nsq (.seq (.block (.seq (rg (gm h1 fun h36=>gm h6 fun h37=>?_))))))
     obtain ⟨r13,Er13,h⟩:=zb h
     refine gcF [eL x2,Enc.enc (x11:Int)] (zf h36 rfl (Enc.erase_enc (x2:LI)) (zf h37 rfl rfl zA)) (H.c32 _ _ _ Er13) H.g32 (gl r13 rfl fun h39=>g1 2 (.ref (.bx 2) 0 [0] (ji x1.1)) h2 fun h40=>g1 40 (ji x1.1) h40 fun h41=>g2 39 41 (jb (decide ((r13.length:Int)≥x1.1))) h39 h41 fun h42=>gq (.nsq (zn h42 h (fun h=>?_) (fun h=>?_))))
     · refine .seq (rg (g0 (jb false) fun h4=>gq (.nsq (.ret ?_))))
       obtain rfl:=oi h
       exact rrA (zo h4) rfl
     refine .skip (.nbk (.nsq (rg (gm h6 fun h34=>g1 34 (ji (w64 (x11 + 1))) h34 fun h35=>gm h35 fun h6=>gq (.nlp ?_)))))
     exact ih (w64 (x11 + 1)) _ ⟨h1,h2,h4,h6⟩ h
   refine .exit (.esq (.elp (.ebk (.nsq (.seq (.seq (rg (g0 (ji 0) fun h7=>gq (.nsq (.block (.loop ?_)))))))))))
   exact zjB H x2 x1 F 0 _ ⟨h1,h2,h4,h7⟩ h
def ul (F:Nat) (x2:LI) (x1:GR) :Nat→Int→Option Bool
 | 0,_=>none
 | k + 1,x5=>
   bif decide (x5 < x1.1) then
    (idx x2 x5).bind fun v8=>
    (WV F v8 (-1) (w64 (x1.1 - 1))).bind fun r9=>
    bif (!r9) then
     some false
    else
     (ul F x2 x1 k) (w64 (x5 + 1))
   else
    vv F x2 x1 F 0
theorem ziJ (H:H29 D σ F) (x2:LI) (x1:GR) :∀ (k:Nat) (x5:Int) (s:Nat→V),zr [(1,eL x2),(2,bG 2 x1),(4,jb false),(5,ji x5)] s→ul F x2 x1 k x5=some r→Run D σ (R29 r) (.run zeJ [.lp zeJ,.bk 0,.sq zjG]) s:=by
 intro k
 induction k with
 | zero=>intro x5 s _ h;exact nm h
 | succ k ih=>
   intro x5 s hs h
   rw [ul] at h
   obtain ⟨h1,h2,h4,h5⟩:=hs
   refine .seq (.seq (rg (gm h5 fun h15=>g1 2 (.ref (.bx 2) 0 [0] (ji x1.1)) h2 fun h16=>g1 16 (ji x1.1) h16 fun h17=>g2 15 17 (jb (decide (x5 < x1.1))) h15 h17 fun h18=>gq (.nsq (zn h18 h (fun h=>?_) (fun h=>?_))))))
   · refine .skip (.nsq (.seq (.block (.seq (rg (gm h1 fun h21=>gm h5 fun h22=>?_))))))
     obtain ⟨v8,Ev8,h⟩:=zb h
     refine gv (.ref .sh 0 [] (ji v8)) (yn (t:=.sh) (lo:=0) (xs:=x2) h21 h22 Ev8 rfl rfl) fun h23=>g1 23 (ji v8) h23 fun h24=>g1 2 (.ref (.bx 2) 0 [0] (ji x1.1)) h2 fun h25=>g1 25 (ji x1.1) h25 fun h26=>g1 26 (ji (w64 (x1.1 - 1))) h26 fun h27=>?_
     obtain ⟨r9,Er9,h⟩:=zb h
     refine gcF [Enc.enc (v8:Int),Enc.enc ((-1):Int),Enc.enc (w64 (x1.1 - 1):Int)] (zf h24 rfl rfl (zf (v:=ji (-1)) rfl rfl rfl (zf h27 rfl rfl zA))) (H.c41 _ _ _ _ Er9) H.g41 (g1 28 (jb (!r9)) (rf (jb r9)) fun h29=>gq (.nsq (zn h29 h (fun h=>?_) (fun h=>?_))))
     · refine .seq (rg (g0 (jb false) fun h4=>gq (.nsq (.ret ?_))))
       obtain rfl:=oi h
       exact rrA (zo h4) rfl
     refine .skip (.nbk (.nsq (rg (gm h5 fun h19=>g1 19 (ji (w64 (x5 + 1))) h19 fun h20=>gm h20 fun h5=>gq (.nlp ?_)))))
     exact ih (w64 (x5 + 1)) _ ⟨h1,h2,h4,h5⟩ h
   refine .exit (.esq (.elp (.ebk (.nsq (.seq (.seq (rg (g0 (ji 0) fun h6=>gq (.nsq (.block (.loop ?_)))))))))))
   exact zk8 H x2 x1 F 0 _ ⟨h1,h2,h4,h6⟩ h
def Z0 (F:Nat) (x1:GR) (x2:LI):Option Bool:=
 bif ((x2.length:Int) != x1.1) then
  some false
 else
  ul F x2 x1 F 0
theorem t29 (H:H29 D σ F) (x1:GR) (x2:LI) (s:Nat→V) (hs:zr [(0,gV x1),(1,eL x2)] s) (h:Z0 F x1 x2=some r):Run D σ (R29 r) (.run A29 []) s:=by
 unfold Z0 at h
 obtain ⟨h0,h1⟩:=hs
 refine .seq (zw (z3 ?_))
 refine ez [(0,_),(1,_),(2,_)] ⟨za h0 rfl mIE,za h1 rfl me,ze rfl⟩ ?_
 rintro s ⟨h0,h1,h2⟩
 refine xo (gV x1) (zF h0 rfl) h2 rfl (g0 (jb false) fun h4=>gq (.nsq (.seq (.seq (rg (gm h1 fun h10=>gl x2 h10 fun h11=>g1 2 (.ref (.bx 2) 0 [0] (ji x1.1)) (rf (bG 2 x1)) fun h12=>g1 12 (ji x1.1) h12 fun h13=>g2 11 13 (jb ((x2.length:Int) != x1.1)) h11 h13 fun h14=>gq (.nsq (zn h14 h (fun h=>?_) (fun h=>?_)))))))))
 · refine .seq (rg (g0 (jb false) fun h4=>gq (.nsq (.ret ?_))))
   obtain rfl:=oi h
   exact rrA (zo h4) rfl
 refine .skip (.nsq (.seq (.seq (rg (g0 (ji 0) fun h5=>gq (.nsq (.block (.loop ?_))))))))
 exact ziJ H x2 x1 F 0 _ ⟨h1,rfl,h4,h5⟩ h
end
def e29 (F:Nat):Ent:=ent 29 (fun (x:(GR×LI×Unit))=>Z0 F x.1 x.2.1) (fun (r:Bool)=>(Enc.enc (r:Bool))) 0 false []
abbrev C29 (D:List V→Option V) (F:Nat):Prop:=∀ (x0:GR) (x1:LI) r,Z0 F x0 x1=some r→D [Enc.enc x0,Enc.enc x1]=some (Enc.enc (r:Bool))
theorem p29 {F:Nat}:C29 (e29 F).den F:=fun x0 x1 _ h=>zU (x0,x1,()) h
theorem o29 (hF:zG Try.prog D σ) (H:H29 D σ F):(e29 F).Ok Try.prog:=okZ (f:=29) Try.func29 fun ⟨x0,x1,_⟩ y hy=>cR hF Try.func29 c29 (t29 H x0 x1 _ ⟨rfl,rfl⟩ hy)
def zv9:AC:=(.cond (.t 8) (.seq (rr [jv 4 (.mov kf),jv 5 (.mov kf)]) .ret) .skip)
def zwn:AC:=(.seq (rr [jv 9 (.load (.ag [.s,.p]) (.t 2)),jm 10 1,jx 11 (.call (jf 29) [.t 9,.t 10]),jm 4 11,jv 5 (.mov kt)]) .ret)
def zxq:AC:=(.seq (.seq (rr [jv 6 (.load (.ag [.s,.p]) (.t 2)),jx 7 (.call (jf 28) [.t 6]),jv 8 (.un .not (.t 7))]) zv9) zwn)
def A7:AC:=(.seq (.reg [.clr [2]] [jx 2 (.box (.t 0)),jv 4 (.mov kf),jv 5 (.mov kf)] []) zxq)
def an7:List An:=[⟨0,[.clr [2]],[],[],[]⟩]
theorem c7:cq Try.prog Try.f7 an7=some A7:=by kernel_rfl
structure H7 (D:Den) (σ:Sig) (F:Nat):Prop where
 c28:C28 (D 28) F
 g28:σ 28=some (0,false)
 c29:C29 (D 29) F
 g29:σ 29=some (0,false)
abbrev R7 (r:(Bool×Bool)):(Nat→V)→Prop:=RR Try.prog [.tmp 4,.tmp 5] 0 false (.tup [Enc.enc (r.1:Bool),Enc.enc (r.2:Bool)])
section
variable {r:(Bool×Bool)}
def YJ (F:Nat) (x1:GR) (x2:LI):Option (Bool×Bool):=
 (Zu F x1).bind fun r3=>
 bif (!r3) then
  some (false,false)
 else
  (Z0 F x1 x2).bind fun r4=>
  some (r4,true)
theorem t7 (H:H7 D σ F) (x1:GR) (x2:LI) (s:Nat→V) (hs:zr [(0,gV x1),(1,eL x2)] s) (h:YJ F x1 x2=some r):Run D σ (R7 r) (.run A7 []) s:=by
 unfold YJ at h
 obtain ⟨h0,h1⟩:=hs
 refine .seq (zw (z3 ?_))
 refine ez [(0,_),(1,_),(2,_)] ⟨za h0 rfl mIE,za h1 rfl me,ze rfl⟩ ?_
 rintro s ⟨h0,h1,h2⟩
 refine xo (gV x1) (zF h0 rfl) h2 rfl (g0 (jb false) fun h4=>g0 (jb false) fun h5=>gq (.nsq (.seq (.seq (rg (g1 2 (gV x1) (rf (bG 2 x1)) fun h6=>?_))))))
 obtain ⟨r3,Er3,h⟩:=zb h
 refine gcF [Enc.enc (x1:GR)] (zf h6 rfl (Enc.erase_enc (x1:GR)) zA) (H.c28 _ _ Er3) H.g28 (g1 7 (jb (!r3)) (rf (jb r3)) fun h8=>gq (.nsq (zn h8 h (fun h=>?_) (fun h=>?_))))
 · refine .seq (rg (g0 (jb false) fun h4=>g0 (jb false) fun h5=>gq (.nsq (.ret ?_))))
   obtain rfl:=oi h
   exact rrB (zo h4) (zo h5) rfl
 refine .skip (.nsq (.seq (rg (g1 2 (gV x1) (rf (bG 2 x1)) fun h9=>gm h1 fun h10=>?_))))
 obtain ⟨r4,Er4,h⟩:=zb h
 refine gcF [Enc.enc (x1:GR),eL x2] (zf h9 rfl (Enc.erase_enc (x1:GR)) (zf h10 rfl (Enc.erase_enc (x2:LI)) zA)) (H.c29 _ _ _ Er4) H.g29 (gm (rf (jb r4)) fun h4=>g0 (jb true) fun h5=>gq (.nsq (.ret ?_)))
 obtain rfl:=oi h
 exact rrB (zo h4) (zo h5) rfl
end
def e7 (F:Nat):Ent:=ent 7 (fun (x:(GR×LI×Unit))=>YJ F x.1 x.2.1) (fun (r:(Bool×Bool))=>(.tup [Enc.enc (r.1:Bool),Enc.enc (r.2:Bool)])) 0 false []
abbrev C7 (D:List V→Option V) (F:Nat):Prop:=∀ (x0:GR) (x1:LI) r,YJ F x0 x1=some r→D [Enc.enc x0,Enc.enc x1]=some (.tup [Enc.enc (r.1:Bool),Enc.enc (r.2:Bool)])
theorem p7 {F:Nat}:C7 (e7 F).den F:=fun x0 x1 _ h=>zU (x0,x1,()) h
theorem o7 (hF:zG Try.prog D σ) (H:H7 D σ F):(e7 F).Ok Try.prog:=okZ (f:=7) Try.func7 fun ⟨x0,x1,_⟩ y hy=>cR hF Try.func7 c7 (t7 H x0 x1 _ ⟨rfl,rfl⟩ hy)
def zqW:AC:=(.seq (rr [jm 32 0,jv 33 (.conv .i64 (.t 32)),jv 34 (.bin .and (.t 33) (jn 127)),jm 2 34]) .ret)
def ztV:AC:=(.seq (rr [jm 28 0,jm 29 0,jv 30 (.bin .shr (.t 29) (.k (.int .u64 (.ofNat 32)))),jv 31 (.bin .add (.t 28) (.t 30)),jm 0 31]) zqW)
def ztS:AC:=(.seq (rr [jm 24 0,jm 25 0,jv 26 (.bin .shr (.t 25) (.k (.int .u64 (.ofNat 16)))),jv 27 (.bin .add (.t 24) (.t 26)),jm 0 27]) ztV)
def zvG:AC:=(.seq (rr [jm 20 0,jm 21 0,jv 22 (.bin .shr (.t 21) (.k (.int .u64 (.ofNat 8)))),jv 23 (.bin .add (.t 20) (.t 22)),jm 0 23]) ztS)
def zuy:AC:=(.seq (rr [jm 15 0,jv 16 (.bin .shr (.t 15) (.k (.int .u64 (.ofNat 4)))),jm 17 0,jv 18 (.bin .add (.t 16) (.t 17)),jv 19 (.bin .and (.t 18) (.k (.int .u64 (.ofNat 1085102592571150095)))),jm 0 19]) zvG)
def zsp:AC:=(.seq (rr [jm 9 0,jv 10 (.bin .shr (.t 9) (.k (.int .u64 (.ofNat 2)))),jv 11 (.bin .and (.t 10) (.k (.int .u64 (.ofNat 3689348814741910323)))),jm 12 0,jv 13 (.bin .and (.t 12) (.k (.int .u64 (.ofNat 3689348814741910323)))),jv 14 (.bin .add (.t 11) (.t 13)),jm 0 14]) zuy)
def ztw:AC:=(.seq (rr [jm 3 0,jv 4 (.bin .shr (.t 3) (.k (.int .u64 (.ofNat 1)))),jv 5 (.bin .and (.t 4) (.k (.int .u64 (.ofNat 6148914691236517205)))),jm 6 0,jv 7 (.bin .and (.t 6) (.k (.int .u64 (.ofNat 6148914691236517205)))),jv 8 (.bin .add (.t 5) (.t 7)),jm 0 8]) zsp)
def A55:AC:=(.seq (rr [jv 2 (.mov (jn 0))]) ztw)
def zxb:List An:=[]
theorem c55:cq Try.prog Try.f55 zxb=some A55:=by kernel_rfl
structure H55 (D:Den) (σ:Sig) (F:Nat):Prop where
 mk ::
abbrev R55 (r:Int):(Nat→V)→Prop:=RR Try.prog [.tmp 2] 0 false (Enc.enc (r:Int))
section
variable {r:Int}
def uP (F:Nat) (x1:(Kd .u64)):Option Int:=
 (UD .u64 x1.v 1).bind fun q2=>
 (UD .u64 (IntKind.u64.wrap ((yx .u64 q2 6148914691236517205) + (yx .u64 x1.v 6148914691236517205))) 2).bind fun q3=>
 (UD .u64 (IntKind.u64.wrap ((yx .u64 q3 3689348814741910323) + (yx .u64 (IntKind.u64.wrap ((yx .u64 q2 6148914691236517205) + (yx .u64 x1.v 6148914691236517205))) 3689348814741910323))) 4).bind fun q4=>
 (UD .u64 (yx .u64 (IntKind.u64.wrap (q4 + (IntKind.u64.wrap ((yx .u64 q3 3689348814741910323) + (yx .u64 (IntKind.u64.wrap ((yx .u64 q2 6148914691236517205) + (yx .u64 x1.v 6148914691236517205))) 3689348814741910323))))) 1085102592571150095) 8).bind fun q5=>
 (UD .u64 (IntKind.u64.wrap ((yx .u64 (IntKind.u64.wrap (q4 + (IntKind.u64.wrap ((yx .u64 q3 3689348814741910323) + (yx .u64 (IntKind.u64.wrap ((yx .u64 q2 6148914691236517205) + (yx .u64 x1.v 6148914691236517205))) 3689348814741910323))))) 1085102592571150095) + q5)) 16).bind fun q6=>
 (UD .u64 (IntKind.u64.wrap ((IntKind.u64.wrap ((yx .u64 (IntKind.u64.wrap (q4 + (IntKind.u64.wrap ((yx .u64 q3 3689348814741910323) + (yx .u64 (IntKind.u64.wrap ((yx .u64 q2 6148914691236517205) + (yx .u64 x1.v 6148914691236517205))) 3689348814741910323))))) 1085102592571150095) + q5)) + q6)) 32).bind fun q7=>
 some (yx .i64 (w64 (IntKind.u64.wrap ((IntKind.u64.wrap ((IntKind.u64.wrap ((yx .u64 (IntKind.u64.wrap (q4 + (IntKind.u64.wrap ((yx .u64 q3 3689348814741910323) + (yx .u64 (IntKind.u64.wrap ((yx .u64 q2 6148914691236517205) + (yx .u64 x1.v 6148914691236517205))) 3689348814741910323))))) 1085102592571150095) + q5)) + q6)) + q7))) 127)
theorem t55 (H:H55 D σ F) (x1:(Kd .u64)) (s:Nat→V) (hs:zr [(0,.int .u64 x1.v)] s) (h:uP F x1=some r):Run D σ (R55 r) (.run A55 []) s:=by
 unfold uP at h
 have h0:=hs
 refine .seq (rg (g0 (ji 0) fun h2=>gq (.nsq (.seq (rg (gm h0 fun h3=>?_))))))
 obtain ⟨q2,Eq2,h⟩:=zb h
 refine gv (.int .u64 q2) (Xh h3 rfl Eq2) fun h4=>g1 4 (.int .u64 (yx .u64 q2 6148914691236517205)) h4 fun h5=>gm h0 fun h6=>g1 6 (.int .u64 (yx .u64 x1.v 6148914691236517205)) h6 fun h7=>g2 5 7 (.int .u64 (IntKind.u64.wrap ((yx .u64 q2 6148914691236517205) + (yx .u64 x1.v 6148914691236517205)))) h5 h7 fun h8=>gm h8 fun h0=>gq (.nsq (.seq (rg (gm h0 fun h9=>?_))))
 obtain ⟨q3,Eq3,h⟩:=zb h
 refine gv (.int .u64 q3) (Xh h9 rfl Eq3) fun h10=>g1 10 (.int .u64 (yx .u64 q3 3689348814741910323)) h10 fun h11=>gm h0 fun h12=>g1 12 (.int .u64 (yx .u64 (IntKind.u64.wrap ((yx .u64 q2 6148914691236517205) + (yx .u64 x1.v 6148914691236517205))) 3689348814741910323)) h12 fun h13=>g2 11 13 (.int .u64 (IntKind.u64.wrap ((yx .u64 q3 3689348814741910323) + (yx .u64 (IntKind.u64.wrap ((yx .u64 q2 6148914691236517205) + (yx .u64 x1.v 6148914691236517205))) 3689348814741910323)))) h11 h13 fun h14=>gm h14 fun h0=>gq (.nsq (.seq (rg (gm h0 fun h15=>?_))))
 obtain ⟨q4,Eq4,h⟩:=zb h
 refine gv (.int .u64 q4) (Xh h15 rfl Eq4) fun h16=>gm h0 fun h17=>g2 16 17 (.int .u64 (IntKind.u64.wrap (q4 + (IntKind.u64.wrap ((yx .u64 q3 3689348814741910323) + (yx .u64 (IntKind.u64.wrap ((yx .u64 q2 6148914691236517205) + (yx .u64 x1.v 6148914691236517205))) 3689348814741910323)))))) h16 h17 fun h18=>g1 18 (.int .u64 (yx .u64 (IntKind.u64.wrap (q4 + (IntKind.u64.wrap ((yx .u64 q3 3689348814741910323) + (yx .u64 (IntKind.u64.wrap ((yx .u64 q2 6148914691236517205) + (yx .u64 x1.v 6148914691236517205))) 3689348814741910323))))) 1085102592571150095)) h18 fun h19=>gm h19 fun h0=>gq (.nsq (.seq (rg (gm h0 fun h20=>gm h0 fun h21=>?_))))
 obtain ⟨q5,Eq5,h⟩:=zb h
 refine gv (.int .u64 q5) (Xh h21 rfl Eq5) fun h22=>g2 20 22 (.int .u64 (IntKind.u64.wrap ((yx .u64 (IntKind.u64.wrap (q4 + (IntKind.u64.wrap ((yx .u64 q3 3689348814741910323) + (yx .u64 (IntKind.u64.wrap ((yx .u64 q2 6148914691236517205) + (yx .u64 x1.v 6148914691236517205))) 3689348814741910323))))) 1085102592571150095) + q5))) h20 h22 fun h23=>gm h23 fun h0=>gq (.nsq (.seq (rg (gm h0 fun h24=>gm h0 fun h25=>?_))))
 obtain ⟨q6,Eq6,h⟩:=zb h
 refine gv (.int .u64 q6) (Xh h25 rfl Eq6) fun h26=>g2 24 26 (.int .u64 (IntKind.u64.wrap ((IntKind.u64.wrap ((yx .u64 (IntKind.u64.wrap (q4 + (IntKind.u64.wrap ((yx .u64 q3 3689348814741910323) + (yx .u64 (IntKind.u64.wrap ((yx .u64 q2 6148914691236517205) + (yx .u64 x1.v 6148914691236517205))) 3689348814741910323))))) 1085102592571150095) + q5)) + q6))) h24 h26 fun h27=>gm h27 fun h0=>gz [(0,_),(2,_)] ⟨h0,h2⟩ ?_
 rintro s ⟨h0,h2⟩
 refine .nsq (.seq (rg (gm h0 fun h28=>gm h0 fun h29=>?_)))
 obtain ⟨q7,Eq7,h⟩:=zb h
 refine gv (.int .u64 q7) (Xh h29 rfl Eq7) fun h30=>g2 28 30 (.int .u64 (IntKind.u64.wrap ((IntKind.u64.wrap ((IntKind.u64.wrap ((yx .u64 (IntKind.u64.wrap (q4 + (IntKind.u64.wrap ((yx .u64 q3 3689348814741910323) + (yx .u64 (IntKind.u64.wrap ((yx .u64 q2 6148914691236517205) + (yx .u64 x1.v 6148914691236517205))) 3689348814741910323))))) 1085102592571150095) + q5)) + q6)) + q7))) h28 h30 fun h31=>?_
 refine gm h31 fun h0=>gq (.nsq (.seq (rg (gm h0 fun h32=>g1 32 (ji (w64 (IntKind.u64.wrap ((IntKind.u64.wrap ((IntKind.u64.wrap ((yx .u64 (IntKind.u64.wrap (q4 + (IntKind.u64.wrap ((yx .u64 q3 3689348814741910323) + (yx .u64 (IntKind.u64.wrap ((yx .u64 q2 6148914691236517205) + (yx .u64 x1.v 6148914691236517205))) 3689348814741910323))))) 1085102592571150095) + q5)) + q6)) + q7)))) h32 fun h33=>?_))))
 refine g1 33 (ji (yx .i64 (w64 (IntKind.u64.wrap ((IntKind.u64.wrap ((IntKind.u64.wrap ((yx .u64 (IntKind.u64.wrap (q4 + (IntKind.u64.wrap ((yx .u64 q3 3689348814741910323) + (yx .u64 (IntKind.u64.wrap ((yx .u64 q2 6148914691236517205) + (yx .u64 x1.v 6148914691236517205))) 3689348814741910323))))) 1085102592571150095) + q5)) + q6)) + q7))) 127)) h33 fun h34=>gm h34 fun h2=>gq (.nsq (.ret ?_))
 obtain rfl:=oi h
 exact rrA (zo h2) rfl
end
def e55 (F:Nat):Ent:=ent 55 (fun (x:((Kd .u64)×Unit))=>uP F x.1) (fun (r:Int)=>(Enc.enc (r:Int))) 0 false []
abbrev C55 (D:List V→Option V) (F:Nat):Prop:=∀ (x0:(Kd .u64)) r,uP F x0=some r→D [Enc.enc x0]=some (Enc.enc (r:Int))
theorem p55 {F:Nat}:C55 (e55 F).den F:=fun x0 _ h=>zU (x0,()) h
theorem o55 {D:Den} {σ:Sig} {F:Nat} (hF:zG Try.prog D σ) (H:H55 D σ F):(e55 F).Ok Try.prog:=by
 refine Jt (f:=55) (show unk 55=55 from rfl) (fun args r h=>?_) ⟨Try.f55,Try.func55,rfl,rfl⟩
 obtain ⟨⟨x0,_⟩,y,rfl,hy,rfl⟩:=Xq h
 exact Yi hF (by kernel_rfl) Try.func55 rfl c55 (show 1≤Try.f55.ntmps by decide) (t55 H x0 _ rfl hy)
def zrh:AC:=(.seq (rr [jm 6 0,jx 7 (.call (jf 55) [.t 6]),jm 2 7]) .ret)
def zqU:AC:=(.seq (.cond kf (.seq (rr [jm 3 0,jv 4 (.conv .u32 (.t 3)),jx 5 (.call (jf 54) [.t 4]),jm 2 5]) .ret) .skip) zrh)
def A30:AC:=(.seq (rr [jv 2 (.mov (jn 0))]) zqU)
def zw8:List An:=[]
theorem c30:cq Try.prog Try.f30 zw8=some A30:=by kernel_rfl
structure H30 (D:Den) (σ:Sig) (F:Nat):Prop where
 c55:C55 (D 55) F
 g55:σ 55=some (0,false)
abbrev R30 (r:Int):(Nat→V)→Prop:=RR Try.prog [.tmp 2] 0 false (Enc.enc (r:Int))
section
variable {r:Int}
def wo (F:Nat) (x1:(Kd .u64)):Option Int:=
 (uP F (Kd.mk x1.v:Kd .u64)).bind fun r2=>
 some r2
theorem t30 (H:H30 D σ F) (x1:(Kd .u64)) (s:Nat→V) (hs:zr [(0,.int .u64 x1.v)] s) (h:wo F x1=some r):Run D σ (R30 r) (.run A30 []) s:=by
 unfold wo at h
 have h0:=hs
 refine .seq (rg (g0 (ji 0) fun h2=>gq (.nsq (.seq (zh4 rfl (.skip (.nsq (.seq (rg (gm h0 fun h6=>?_))))))))))
 obtain ⟨r2,Er2,h⟩:=zb h
 refine gcF [Enc.enc ((Kd.mk x1.v:Kd .u64):(Kd .u64))] (zf h6 rfl rfl zA) (H.c55 _ _ Er2) H.g55 (gm (rf (ji r2)) fun h2=>gq (.nsq (.ret ?_)))
 obtain rfl:=oi h
 exact rrA (zo h2) rfl
end
def e30 (F:Nat):Ent:=ent 30 (fun (x:((Kd .u64)×Unit))=>wo F x.1) (fun (r:Int)=>(Enc.enc (r:Int))) 0 false []
abbrev C30 (D:List V→Option V) (F:Nat):Prop:=∀ (x0:(Kd .u64)) r,wo F x0=some r→D [Enc.enc x0]=some (Enc.enc (r:Int))
theorem p30 {F:Nat}:C30 (e30 F).den F:=fun x0 _ h=>zU (x0,()) h
theorem o30 {D:Den} {σ:Sig} {F:Nat} (hF:zG Try.prog D σ) (H:H30 D σ F):(e30 F).Ok Try.prog:=by
 refine Jt (f:=30) (show unk 30=30 from rfl) (fun args r h=>?_) ⟨Try.f30,Try.func30,rfl,rfl⟩
 obtain ⟨⟨x0,_⟩,y,rfl,hy,rfl⟩:=Xq h
 exact Yi hF (by kernel_rfl) Try.func30 rfl c30 (show 1≤Try.f30.ntmps by decide) (t30 H x0 _ rfl hy)
def zwm:AC:=(rr [jm 28 8,jm 29 10,jv 30 (.conv .u64 (.t 29)),jx 31 (.call (jf 30) [.t 30]),jv 32 (.bin .add (.t 31) (jn 1)),jv 33 (.mx [.t 28,.t 32]),jm 8 33])
def zwz:AC:=(rr [jv 34 (.bin .add (.t 24) (jn 1)),jm 24 34])
def zwB:AC:=(.seq (.block 1 (.seq (rr [jv 26 (.idx (.t 22) (.t 24) 1),jl 27 26,jm 10 27]) zwm)) zwz)
def zwO:AC:=(.seq (.cond (.t 25) .skip (.exit 0)) zwB)
def zoh:AC:=(.seq (rr [jv 25 (.bin .lss (.t 24) (.t 23))]) zwO)
def zvm:AC:=(.seq (rr [jm 35 8,jm 4 35,jv 5 (.mov kt)]) .ret)
def zwo:AC:=(.cond (.t 13) (.seq (rr [jv 4 (.mov (jn 0)),jv 5 (.mov kf)]) .ret) .skip)
def zsq:AC:=(.cond (.t 21) (.seq (rr [jv 4 (.mov (jn 0)),jv 5 (.mov kf)]) .ret) .skip)
def ztD:AC:=(.block 0 (.loop zoh))
def zsG:AC:=(.seq (.seq (rr [jm 22 6,jk 23 22,jv 24 (.mov (jn 0))]) ztD) zvm)
def zrP:AC:=(.seq (rr [jv 8 (.mov (jn 0))]) zsG)
def zsK:AC:=(.seq (.seq (rr [jm 20 7,jv 21 (.un .not (.t 20))]) zsq) zrP)
def zwN:AC:=(.seq (rr [jv 15 (.load (.ag [.s,.p]) (.t 2)),jm 16 1,jx 17 (.call (jf 27) [.t 15,.t 16]),jm 14 17,jv 18 (.ext (.t 14) 0),jv 19 (.extS (.t 14) 1),jm 6 18,jm 7 19]) zsK)
def zws:AC:=(.seq (.seq (rr [jv 11 (.load (.ag [.s,.p]) (.t 2)),jx 12 (.call (jf 26) [.t 11]),jv 13 (.un .not (.t 12))]) zwo) zwN)
def A8:AC:=(.seq (.reg [.clr [2]] [jx 2 (.box (.t 0)),jv 4 (.mov (jn 0)),jv 5 (.mov kf)] []) zws)
def an8:List An:=[⟨0,[.clr [2]],[],[],[]⟩]
theorem c8:cq Try.prog Try.f8 an8=some A8:=by kernel_rfl
structure H8 (D:Den) (σ:Sig) (F:Nat):Prop where
 c26:C26 (D 26) F
 g26:σ 26=some (0,false)
 c27:C27 (D 27) F
 g27:σ 27=some (0,false)
 c30:C30 (D 30) F
 g30:σ 30=some (0,false)
abbrev R8 (r:(Int×Bool)):(Nat→V)→Prop:=RR Try.prog [.tmp 4,.tmp 5] 0 false (.tup [Enc.enc (r.1:Int),Enc.enc (r.2:Bool)])
section
variable {r:(Int×Bool)}
def we (F:Nat) (r4:(LI×Bool)) :Nat→Int→Int→Option (Int×Bool)
 | 0,_,_=>none
 | k + 1,x7,x8=>
   bif decide (x8 < (r4.1.length:Int)) then
    (idx r4.1 x8).bind fun v11=>
    (wo F (Kd.mk (IntKind.u64.wrap v11):Kd .u64)).bind fun r12=>
    (we F r4 k) (if (w64 (r12 + 1)) > x7 then (w64 (r12 + 1)) else x7) (w64 (x8 + 1))
   else
    some (x7,true)
theorem zlo (H:H8 D σ F) (r4:(LI×Bool)) :∀ (k:Nat) (x7:Int) (x8:Int) (s:Nat→V),zr [(4,ji 0),(5,jb false),(8,ji x7),(22,eL r4.1),(23,ji (r4.1.length:Int)),(24,ji x8)] s→we F r4 k x7 x8=some r→Run D σ (R8 r) (.run zoh [.lp zoh,.bk 0,.sq zvm]) s:=by
 intro k
 induction k with
 | zero=>intro x7 x8 s _ h;exact nm h
 | succ k ih=>
   intro x7 x8 s hs h
   rw [we] at h
   obtain ⟨h4,h5,h8,h22,h23,h24⟩:=hs
   refine .seq (rg (g2 24 23 (jb (decide (x8 < (r4.1.length:Int)))) h24 h23 fun h25=>gq (.nsq (.seq (zn h25 h (fun h=>?_) (fun h=>?_))))))
   · refine .skip (.nsq (.seq (.block (.seq (rg ?_)))))
     obtain ⟨v11,Ev11,h⟩:=zb h
     refine gv (.ref .sh 0 [] (ji v11)) (yn (t:=.sh) (lo:=0) (xs:=r4.1) h22 h24 Ev11 rfl rfl) fun h26=>g1 26 (ji v11) h26 fun h27=>gm h27 fun h10=>gq (.nsq (rg (gm h8 fun h28=>gm h10 fun h29=>g1 29 (.int .u64 (IntKind.u64.wrap v11)) h29 fun h30=>?_)))
     obtain ⟨r12,Er12,h⟩:=zb h
     refine gcF [Enc.enc ((Kd.mk (IntKind.u64.wrap v11):Kd .u64):(Kd .u64))] (zf h30 rfl rfl zA) (H.c30 _ _ Er12) H.g30 (g1 31 (ji (w64 (r12 + 1))) (rf (ji r12)) fun h32=>g2 28 32 (ji (if (w64 (r12 + 1)) > x7 then (w64 (r12 + 1)) else x7)) h28 h32 fun h33=>gm h33 fun h8=>gz [(4,_),(5,_),(8,_),(22,_),(23,_),(24,_)] ⟨h4,h5,h8,h22,h23,h24⟩ ?_)
     rintro s ⟨h4,h5,h8,h22,h23,h24⟩
     refine .nbk (.nsq (rg (g1 24 (ji (w64 (x8 + 1))) h24 fun h34=>gm h34 fun h24=>gq (.nlp ?_))))
     exact ih (if (w64 (r12 + 1)) > x7 then (w64 (r12 + 1)) else x7) (w64 (x8 + 1)) _ ⟨h4,h5,h8,h22,h23,h24⟩ h
   refine .exit (.esq (.elp (.ebk (.nsq (.seq (rg (gm h8 fun h35=>gm h35 fun h4=>g0 (jb true) fun h5=>gq (.nsq (.ret ?_)))))))))
   obtain rfl:=oi h
   exact rrB (zo h4) (zo h5) rfl
def wL (F:Nat) (x1:GR) (x2:LI):Option (Int×Bool):=
 (vh F x1).bind fun r3=>
 bif (!r3) then
  some (0,false)
 else
  (vt F x1 x2).bind fun r4=>
  bif (!r4.2) then
   some (0,false)
  else
   we F r4 F 0 0
theorem t8 (H:H8 D σ F) (x1:GR) (x2:LI) (s:Nat→V) (hs:zr [(0,gV x1),(1,eL x2)] s) (h:wL F x1 x2=some r):Run D σ (R8 r) (.run A8 []) s:=by
 unfold wL at h
 obtain ⟨h0,h1⟩:=hs
 refine .seq (zw (z3 ?_))
 refine ez [(0,_),(1,_),(2,_)] ⟨za h0 rfl mIE,za h1 rfl me,ze rfl⟩ ?_
 rintro s ⟨h0,h1,h2⟩
 refine xo (gV x1) (zF h0 rfl) h2 rfl (g0 (ji 0) fun h4=>g0 (jb false) fun h5=>gq (.nsq (.seq (.seq (rg (g1 2 (gV x1) (rf (bG 2 x1)) fun h11=>?_))))))
 obtain ⟨r3,Er3,h⟩:=zb h
 refine gcF [Enc.enc (x1:GR)] (zf h11 rfl (Enc.erase_enc (x1:GR)) zA) (H.c26 _ _ Er3) H.g26 (g1 12 (jb (!r3)) (rf (jb r3)) fun h13=>gq (.nsq (zn h13 h (fun h=>?_) (fun h=>?_))))
 · refine .seq (rg (g0 (ji 0) fun h4=>g0 (jb false) fun h5=>gq (.nsq (.ret ?_))))
   obtain rfl:=oi h
   exact rrB (zo h4) (zo h5) rfl
 refine .skip (.nsq (.seq (rg (g1 2 (gV x1) (rf (bG 2 x1)) fun h15=>gm h1 fun h16=>?_))))
 obtain ⟨r4,Er4,h⟩:=zb h
 refine gcF [Enc.enc (x1:GR),eL x2] (zf h15 rfl (Enc.erase_enc (x1:GR)) (zf h16 rfl (Enc.erase_enc (x2:LI)) zA)) (H.c27 _ _ _ Er4) H.g27 (gm (rf (.tup [eL r4.1,jb r4.2])) fun h14=>g1 14 (eL r4.1) h14 fun h18=>g1 14 (jb r4.2) h14 fun h19=>gm h18 fun h6=>gm h19 fun h7=>gq (.nsq (.seq (.seq (rg (gm h7 fun h20=>g1 20 (jb (!r4.2)) h20 fun h21=>gq (.nsq (zn h21 h (fun h=>?_) (fun h=>?_)))))))))
 · refine .seq (rg (g0 (ji 0) fun h4=>g0 (jb false) fun h5=>gq (.nsq (.ret ?_))))
   obtain rfl:=oi h
   exact rrB (zo h4) (zo h5) rfl
 refine .skip (.nsq (.seq (rg (g0 (ji 0) fun h8=>gq (.nsq (.seq (.seq (rg (gm h6 fun h22=>gl r4.1 h22 fun h23=>g0 (ji 0) fun h24=>gq (.nsq (.block (.loop ?_))))))))))))
 exact zlo H r4 F 0 0 _ ⟨h4,h5,h8,h22,h23,h24⟩ h
end
def e8 (F:Nat):Ent:=ent 8 (fun (x:(GR×LI×Unit))=>wL F x.1 x.2.1) (fun (r:(Int×Bool))=>(.tup [Enc.enc (r.1:Int),Enc.enc (r.2:Bool)])) 0 false []
abbrev C8 (D:List V→Option V) (F:Nat):Prop:=∀ (x0:GR) (x1:LI) r,wL F x0 x1=some r→D [Enc.enc x0,Enc.enc x1]=some (.tup [Enc.enc (r.1:Int),Enc.enc (r.2:Bool)])
theorem p8 {F:Nat}:C8 (e8 F).den F:=fun x0 x1 _ h=>zU (x0,x1,()) h
theorem o8 (hF:zG Try.prog D σ) (H:H8 D σ F):(e8 F).Ok Try.prog:=okZ (f:=8) Try.func8 fun ⟨x0,x1,_⟩ y hy=>cR hF Try.func8 c8 (t8 H x0 x1 _ ⟨rfl,rfl⟩ hy)
def zv2:AC:=(.cond (.t 20) .skip (.exit 0))
def zvY:AC:=(rr [jm 21 7,jv 22 (.bin .add (.t 21) (jn 1)),jm 7 22])
def zxO:AC:=(.seq (.block 1 (rr [jm 23 6,jm 24 1,jm 25 7,jx 26 (.call (jf 32) [.t 24,.t 25]),jk 27 26,jv 28 (.bin .add (jn 1) (.t 27)),jx 29 (.call (jf 31) [.t 23,.t 28]),jm 6 29])) zvY)
def zoF:AC:=(.seq (.seq (rr [jm 17 7,jv 18 (.fld (.t 2) 0 0),jl 19 18,jv 20 (.bin .lss (.t 17) (.t 19))]) zv2) zxO)
def zvH:AC:=(.seq (rr [jm 30 6,jm 4 30,jv 5 (.mov kt)]) .ret)
def zsg:AC:=(.cond (.t 16) (.seq (rr [jv 4 (.mov (jn 0)),jv 5 (.mov kf)]) .ret) .skip)
def zw2:AC:=(.block 0 (.loop zoF))
def zxm:AC:=(.seq (.seq (rr [jv 7 (.mov (jn 0))]) zw2) zvH)
def zvd:AC:=(.seq (rr [jv 6 (.mov (jn 0))]) zxm)
def zqX:AC:=(.seq (.seq (rr [jv 8 (.load (.ag [.s,.p]) (.t 2)),jx 9 (.call (jf 28) [.t 8]),jv 10 (.un .not (.t 9)),jm 11 10,jg 12 11 false (.load (.ag [.s,.p]) (.t 2)),jg 13 11 false (.mov (.t 1)),.mk (some 14) (some (11,false)) false (.call (jf 29) [.t 12,.t 13]),jg 15 11 false (.un .not (.t 14)),jv 16 (.pick (.t 11) kt (.t 15))]) zsg) zvd)
def A9:AC:=(.seq (.reg [.clr [2]] [jx 2 (.box (.t 0)),jv 4 (.mov (jn 0)),jv 5 (.mov kf)] []) zqX)
def an9:List An:=[⟨0,[.clr [2]],[],[],[]⟩]
theorem c9:cq Try.prog Try.f9 an9=some A9:=by kernel_rfl
structure H9 (D:Den) (σ:Sig) (F:Nat):Prop where
 c28:C28 (D 28) F
 g28:σ 28=some (0,false)
 c29:C29 (D 29) F
 g29:σ 29=some (0,false)
 c32:C32 (D 32) F
 g32:σ 32=some (0,false)
 c31:C31 (D 31) F
 g31:σ 31=some (0,false)
abbrev R9 (r:(Int×Bool)):(Nat→V)→Prop:=RR Try.prog [.tmp 4,.tmp 5] 0 false (.tup [Enc.enc (r.1:Int),Enc.enc (r.2:Bool)])
section
variable {r:(Int×Bool)}
def wb (F:Nat) (x2:LI) (x1:GR) :Nat→Int→Int→Option (Int×Bool)
 | 0,_,_=>none
 | k + 1,x8,x9=>
   bif decide (x9 < x1.1) then
    (ZF F x2 x9).bind fun r12=>
    (Xt F x8 (w64 (1 + (r12.length:Int)))).bind fun r13=>
    (wb F x2 x1 k) r13 (w64 (x9 + 1))
   else
    some (x8,true)
theorem zlt (H:H9 D σ F) (x2:LI) (x1:GR) :∀ (k:Nat) (x8:Int) (x9:Int) (s:Nat→V),zr [(1,eL x2),(2,bG 2 x1),(4,ji 0),(5,jb false),(6,ji x8),(7,ji x9)] s→wb F x2 x1 k x8 x9=some r→Run D σ (R9 r) (.run zoF [.lp zoF,.bk 0,.sq zvH]) s:=by
 intro k
 induction k with
 | zero=>intro x8 x9 s _ h;exact nm h
 | succ k ih=>
   intro x8 x9 s hs h
   rw [wb] at h
   obtain ⟨h1,h2,h4,h5,h6,h7⟩:=hs
   refine .seq (.seq (rg (gm h7 fun h17=>g1 2 (.ref (.bx 2) 0 [0] (ji x1.1)) h2 fun h18=>g1 18 (ji x1.1) h18 fun h19=>g2 17 19 (jb (decide (x9 < x1.1))) h17 h19 fun h20=>gq (.nsq (zn h20 h (fun h=>?_) (fun h=>?_))))))
   · refine .skip (.nsq (.seq (.block (rg (gm h6 fun h23=>gm h1 fun h24=>gm h7 fun h25=>?_)))))
     obtain ⟨r12,Er12,h⟩:=zb h
     refine gcF [eL x2,Enc.enc (x9:Int)] (zf h24 rfl (Enc.erase_enc (x2:LI)) (zf h25 rfl rfl zA)) (H.c32 _ _ _ Er12) H.g32 (gl r12 rfl fun h27=>g1 27 (ji (w64 (1 + (r12.length:Int)))) h27 fun h28=>?_)
     obtain ⟨r13,Er13,h⟩:=zb h
     refine gcF [Enc.enc (x8:Int),Enc.enc (w64 (1 + (r12.length:Int)):Int)] (zf h23 rfl rfl (zf h28 rfl rfl zA)) (H.c31 _ _ _ Er13) H.g31 (gm (rf (ji r13)) fun h6=>gq (.nbk (.nsq (rg (gm h7 fun h21=>g1 21 (ji (w64 (x9 + 1))) h21 fun h22=>gm h22 fun h7=>gq (.nlp ?_))))))
     exact ih r13 (w64 (x9 + 1)) _ ⟨h1,h2,h4,h5,h6,h7⟩ h
   refine .exit (.esq (.elp (.ebk (.nsq (.seq (rg (gm h6 fun h30=>gm h30 fun h4=>g0 (jb true) fun h5=>gq (.nsq (.ret ?_)))))))))
   obtain rfl:=oi h
   exact rrB (zo h4) (zo h5) rfl
def uN (F:Nat) (x2:LI) (x1:GR)  (x5:Bool):Option (Int×Bool):=
 bif x5 then
  some (0,false)
 else
  wb F x2 x1 F 0 0
theorem zgi (H:H9 D σ F) (x2:LI) (x1:GR)  (x5:Bool) (s:Nat→V) (hs:zr [(1,eL x2),(2,bG 2 x1),(4,ji 0),(5,jb false),(16,jb x5)] s) (h:uN F x2 x1  x5=some r):Run D σ (R9 r) (.nrm [.sq zsg,.sq zvd]) s:=by
 unfold uN at h
 obtain ⟨h1,h2,h4,h5,h16⟩:=hs
 refine .nsq (zn h16 h (fun h=>?_) (fun h=>?_))
 · refine .seq (rg (g0 (ji 0) fun h4=>g0 (jb false) fun h5=>gq (.nsq (.ret ?_))))
   obtain rfl:=oi h
   exact rrB (zo h4) (zo h5) rfl
 refine .skip (.nsq (.seq (rg (g0 (ji 0) fun h6=>gq (.nsq (.seq (.seq (rg (g0 (ji 0) fun h7=>gq (.nsq (.block (.loop ?_))))))))))))
 exact zlt H x2 x1 F 0 0 _ ⟨h1,h2,h4,h5,h6,h7⟩ h
def um (F:Nat) (x1:GR) (x2:LI):Option (Int×Bool):=
 (Zu F x1).bind fun r14=>
 bif (!r14) then
  uN F x2 x1 true
 else
  (Z0 F x1 x2).bind fun r15=>
  uN F x2 x1 (!r15)
theorem t9 (H:H9 D σ F) (x1:GR) (x2:LI) (s:Nat→V) (hs:zr [(0,gV x1),(1,eL x2)] s) (h:um F x1 x2=some r):Run D σ (R9 r) (.run A9 []) s:=by
 unfold um at h
 obtain ⟨h0,h1⟩:=hs
 refine .seq (zw (z3 ?_))
 refine ez [(0,_),(1,_),(2,_)] ⟨za h0 rfl mIE,za h1 rfl me,ze rfl⟩ ?_
 rintro s ⟨h0,h1,h2⟩
 refine xo (gV x1) (zF h0 rfl) h2 rfl (g0 (ji 0) fun h4=>g0 (jb false) fun h5=>gq (.nsq (.seq (.seq (rg (g1 2 (gV x1) (rf (bG 2 x1)) fun h8=>?_))))))
 obtain ⟨r14,Er14,h⟩:=zb h
 refine gcF [Enc.enc (x1:GR)] (zf h8 rfl (Enc.erase_enc (x1:GR)) zA) (H.c28 _ _ Er14) H.g28 (g1 9 (jb (!r14)) (rf (jb r14)) fun h10=>gm h10 fun h11=>z4 h (fun hg4 h=>?_) (fun hg4 h=>?_))
 · iterate 4 refine zR (ct h11 hg4) ?_
   refine g2 11 15 (jb true) (ct h11 hg4) (rf (.tup [])) fun h16=>gq ?_
   exact zgi H x2 x1 true _ ⟨h1,rfl,h4,h5,h16⟩ h
 refine zm (ct h11 hg4) (g1 2 (gV x1) (rf (bG 2 x1)) fun h12=>zm (ct h11 hg4) (gm h1 fun h13=>?_))
 obtain ⟨r15,Er15,h⟩:=zb h
 refine zm (ct h11 hg4) (gcF [Enc.enc (x1:GR),eL x2] (zf h12 rfl (Enc.erase_enc (x1:GR)) (zf h13 rfl (Enc.erase_enc (x2:LI)) zA)) (H.c29 _ _ _ Er15) H.g29 (zm (ct h11 hg4) (g1 14 (jb (!r15)) (rf (jb r15)) fun h15=>g2 11 15 (jb (!r15)) (ct h11 hg4) h15 fun h16=>gq ?_)))
 exact zgi H x2 x1 (!r15) _ ⟨h1,rfl,h4,h5,h16⟩ h
end
def e9 (F:Nat):Ent:=ent 9 (fun (x:(GR×LI×Unit))=>um F x.1 x.2.1) (fun (r:(Int×Bool))=>(.tup [Enc.enc (r.1:Int),Enc.enc (r.2:Bool)])) 0 false []
abbrev C9 (D:List V→Option V) (F:Nat):Prop:=∀ (x0:GR) (x1:LI) r,um F x0 x1=some r→D [Enc.enc x0,Enc.enc x1]=some (.tup [Enc.enc (r.1:Int),Enc.enc (r.2:Bool)])
theorem p9 {F:Nat}:C9 (e9 F).den F:=fun x0 x1 _ h=>zU (x0,x1,()) h
theorem o9 (hF:zG Try.prog D σ) (H:H9 D σ F):(e9 F).Ok Try.prog:=okZ (f:=9) Try.func9 fun ⟨x0,x1,_⟩ y hy=>cR hF Try.func9 c9 (t9 H x0 x1 _ ⟨rfl,rfl⟩ hy)
def zsz:AC:=(rr [jv 28 (.fld (.t 3) 0 0),jv 29 (.load .p (.t 28)),jv 30 (.idxA (.t 5) (jn 1) 2 1),jl 31 30,jv 32 (.idx (.t 29) (.t 31) 1),jl 33 32,jv 34 (.idxA (.t 5) (jn 0) 2 1),jl 35 34,jv 36 (.bin .shl (jn 1) (.t 35)),jv 37 (.bin .or (.t 33) (.t 36)),jv 38 (.idx (.t 29) (.t 31) 1),jz (.store .s (.t 38) (.t 37))])
def zrJ:AC:=(.seq (rr [jv 17 (.fld (.t 3) 0 0),jv 18 (.load .p (.t 17)),jv 19 (.idxA (.t 5) (jn 0) 2 1),jl 20 19,jv 21 (.idx (.t 18) (.t 20) 1),jl 22 21,jv 23 (.idxA (.t 5) (jn 1) 2 1),jl 24 23,jv 25 (.bin .shl (jn 1) (.t 24)),jv 26 (.bin .or (.t 22) (.t 25)),jv 27 (.idx (.t 18) (.t 20) 1),jz (.store .s (.t 27) (.t 26))]) zsz)
def zrB:AC:=(rr [jv 39 (.bin .add (.t 13) (jn 1)),jm 13 39])
def ztM:AC:=(.seq (.block 1 (.seq (.reg [.clr [5]] [jv 15 (.idx (.t 11) (.t 13) 2),jv 16 (.load (.ag [.s,.s]) (.t 15)),jx 5 (.alloc (.agg [i0,i0])),jz (.store (.ag [.s,.s]) (.t 5) (.t 16))] []) zrJ)) zrB)
def zuD:AC:=(.seq (.cond (.t 14) .skip (.exit 0)) ztM)
def zkC:AC:=(.seq (rr [jv 14 (.bin .lss (.t 13) (.t 12))]) zuD)
def zmR:AC:=(.seq (rr [jv 40 (.load (.ag [.p]) (.t 3)),jz (.store (.ag [.p]) (.t 2) (.t 40))]) .ret)
def zps:AC:=(.block 0 (.loop zkC))
def zvi:AC:=(.seq (.seq (rr [jv 10 (.fld (.t 1) 1 1),jv 11 (.load .p (.t 10)),jk 12 11,jv 13 (.mov (jn 0))]) zps) zmR)
def zsj:AC:=(.seq (.reg [.clr [8,3]] [jv 6 (.fld (.t 1) 0 0),jl 7 6,jx 8 (.mk (.t 7) i0 i0),jv 9 (.bld (.agg [.sl .nl .s 0 []]) [(0,0,.t 8)]),jx 3 (.alloc (.agg [.sl .nl .s 0 []])),jz (.store (.ag [.p]) (.t 3) (.t 9))] []) zvi)
def A33:AC:=(.seq (.reg [.clr [1,2]] [jx 1 (.box (.t 0)),jx 2 (.alloc (.agg [.sl .nl .s 0 []]))] []) zsj)
def zw5:List An:=[⟨0,[.clr [1,2]],[],[],[]⟩,⟨1,[.clr [8,3]],[],[],[]⟩,⟨4,[.clr [5]],[],[],[]⟩]
theorem c33:cq Try.prog Try.f33 zw5=some A33:=by kernel_rfl
structure H33 (D:Den) (σ:Sig) (F:Nat):Prop where
 mk ::
abbrev R33 (r:(S1 LI)):(Nat→V)→Prop:=RR Try.prog [.cell 2 59] 0 false (Enc.enc (r:(S1 LI)))
section
variable {r:(S1 LI)}
def YE (F:Nat) (x1:GR) :Nat→LI→Int→Option (S1 LI)
 | 0,_,_=>none
 | k + 1,x10,x11=>
   bif decide (x11 < (x1.2.length:Int)) then
    (idx x1.2 x11).bind fun v19=>
    (idx x10 v19.1).bind fun v20=>
    (Xr .i64 1 v19.2).bind fun q21=>
    (idx x10 v19.1).bind fun v22=>
    (idx (x10.set v19.1.toNat (ior .i64 v20 q21)) v19.2).bind fun v23=>
    (Xr .i64 1 v19.1).bind fun q24=>
    (idx (x10.set v19.1.toNat (ior .i64 v20 q21)) v19.2).bind fun v25=>
    (YE F x1 k) ((x10.set v19.1.toNat (ior .i64 v20 q21)).set v19.2.toNat (ior .i64 v23 q24)) (w64 (x11 + 1))
   else
    some (S1.mk x10)
theorem ziU (H:H33 D σ F) (x1:GR) :∀ (k:Nat) (x10:LI) (x11:Int) (s:Nat→V),zr [(2,.ref (.bx 2) 0 [] (.agg [nI])),(3,.ref (.bx 3) 0 [] (.agg [oI 8 [] (.of x10)])),(11,eP x1.2),(12,ji (x1.2.length:Int)),(13,ji x11)] s→YE F x1 k x10 x11=some r→Run D σ (R33 r) (.run zkC [.lp zkC,.bk 0,.sq zmR]) s:=by
 intro k
 induction k with
 | zero=>intro x10 x11 s _ h;exact nm h
 | succ k ih=>
   intro x10 x11 s hs h
   rw [YE] at h
   obtain ⟨h2,h3,h11,h12,h13⟩:=hs
   refine .seq (rg (g2 13 12 (jb (decide (x11 < (x1.2.length:Int)))) h13 h12 fun h14=>gq (.nsq (.seq (zn h14 h (fun h=>?_) (fun h=>?_))))))
   · refine .skip (.nsq (.seq (.block (.seq (zw (z3 ?_))))))
     refine ez [(2,_),(3,_),(5,_),(11,_),(12,_),(13,_)] ⟨za h2 rfl (zj rfl (zW (zh rfl zB))),za h3 rfl (zj rfl (zW (zh (zq (r:=8) (p:=[]) rfl rfl) zB))),ze rfl,za h11 rfl me,za h12 rfl mi,za h13 rfl mi⟩ ?_
     rintro s ⟨h2,h3,h5,h11,h12,h13⟩
     obtain ⟨v19,Ev19,h⟩:=zb h
     refine gv (.ref .sh 0 [] (.agg [ji v19.1,ji v19.2])) (yn (t:=.sh) (lo:=0) (xs:=x1.2) h11 h13 Ev19 rfl rfl) fun h15=>g1 15 (.agg [ji v19.1,ji v19.2]) h15 fun h16=>xA h5 (ye (.agg [ji v19.1,ji v19.2]) (zF rfl rfl) (zF h16 rfl) (xN (by first | rfl | simp [V.toks,V.tokss,Enc.toks_enc,yd])) ?_)
     refine gz [(2,.ref (.bx 2) 0 [] (.agg [nI])),(3,.ref (.bx 3) 0 [] (.agg [oI 8 [] (.of x10)])),(5,.ref (.bx 5) 0 [] (.agg [ji v19.1,ji v19.2])),(11,eP x1.2),(12,ji (x1.2.length:Int)),(13,ji x11)] ⟨zd h2 (zH rfl rfl (yL (zy rfl rfl))),zd h3 (zH rfl rfl (yL (zy (wH rfl rfl) rfl))),zd rfl rfl,zd h11 uE,zd h12 rfl,zd h13 rfl⟩ ?_
     rintro s ⟨h2,h3,h5,h11,h12,h13⟩
     refine .nsq (.seq (rg (g1 3 (.ref (.bx 3) 0 [0] (oI 8 [] (.of x10))) h3 fun h17=>g1 17 (oI 8 [] (.of x10)) h17 fun h18=>g1 5 (.ref (.bx 5) 0 [0] (ji v19.1)) h5 fun h19=>g1 19 (ji v19.1) h19 fun h20=>?_)))
     obtain ⟨v20,Ev20,h⟩:=zb h
     refine gv (.ref (.at 8 []) v19.1.toNat [] (ji v20)) (xq (o:=.of x10) h18 h20 Ev20 rfl) fun h21=>g1 21 (ji v20) h21 fun h22=>g1 5 (.ref (.bx 5) 0 [1] (ji v19.2)) h5 fun h23=>g1 23 (ji v19.2) h23 fun h24=>?_
     obtain ⟨q21,Eq21,h⟩:=zb h
     refine gv (ji q21) (uo rfl h24 Eq21) fun h25=>g2 22 25 (ji (ior .i64 v20 q21)) h22 h25 fun h26=>?_
     obtain ⟨v22,Ev22,h⟩:=zb h
     refine gv (.ref (.at 8 []) v19.1.toNat [] (ji v22)) (xq (o:=.of x10) h18 h20 Ev22 rfl) fun h27=>ye (ji (ior .i64 v20 q21)) (zF h27 rfl) (zF h26 rfl) (xN (by first | rfl | simp [V.toks,V.tokss,Enc.toks_enc,yd])) (gz [(2,.ref (.bx 2) 0 [] (.agg [nI])),(3,.ref (.bx 3) 0 [] (.agg [oI 8 [] (.of (x10.set v19.1.toNat (ior .i64 v20 q21)))])),(5,.ref (.bx 5) 0 [] (.agg [ji v19.1,ji v19.2])),(11,eP x1.2),(12,ji (x1.2.length:Int)),(13,ji x11)] ⟨zd h2 (zH rfl rfl (yL (zy rfl rfl))),zd h3 (zH rfl rfl (yL (zy Xu rfl))),zd h5 rfl,zd h11 uE,zd h12 rfl,zd h13 rfl⟩ ?_)
     rintro s ⟨h2,h3,h5,h11,h12,h13⟩
     refine .nsq (rg (g1 3 (.ref (.bx 3) 0 [0] (oI 8 [] (.of (x10.set v19.1.toNat (ior .i64 v20 q21))))) h3 fun h28=>g1 28 (oI 8 [] (.of (x10.set v19.1.toNat (ior .i64 v20 q21)))) h28 fun h29=>g1 5 (.ref (.bx 5) 0 [1] (ji v19.2)) h5 fun h30=>g1 30 (ji v19.2) h30 fun h31=>?_))
     obtain ⟨v23,Ev23,h⟩:=zb h
     refine gv (.ref (.at 8 []) v19.2.toNat [] (ji v23)) (xq (o:=.of (x10.set v19.1.toNat (ior .i64 v20 q21))) h29 h31 Ev23 rfl) fun h32=>g1 32 (ji v23) h32 fun h33=>g1 5 (.ref (.bx 5) 0 [0] (ji v19.1)) h5 fun h34=>g1 34 (ji v19.1) h34 fun h35=>?_
     obtain ⟨q24,Eq24,h⟩:=zb h
     refine gv (ji q24) (uo rfl h35 Eq24) fun h36=>g2 33 36 (ji (ior .i64 v23 q24)) h33 h36 fun h37=>?_
     obtain ⟨v25,Ev25,h⟩:=zb h
     refine gv (.ref (.at 8 []) v19.2.toNat [] (ji v25)) (xq (o:=.of (x10.set v19.1.toNat (ior .i64 v20 q21))) h29 h31 Ev25 rfl) fun h38=>ye (ji (ior .i64 v23 q24)) (zF h38 rfl) (zF h37 rfl) (xN (by first | rfl | simp [V.toks,V.tokss,Enc.toks_enc,yd])) ?_
     refine gz [(2,.ref (.bx 2) 0 [] (.agg [nI])),(3,.ref (.bx 3) 0 [] (.agg [oI 8 [] (.of ((x10.set v19.1.toNat (ior .i64 v20 q21)).set v19.2.toNat (ior .i64 v23 q24)))])),(11,eP x1.2),(12,ji (x1.2.length:Int)),(13,ji x11)] ⟨zd h2 (zH rfl rfl (yL (zy rfl rfl))),zd h3 (zH rfl rfl (yL (zy Xu rfl))),zd h11 uE,zd h12 rfl,zd h13 rfl⟩ ?_
     rintro s ⟨h2,h3,h11,h12,h13⟩
     refine .nbk (.nsq (rg (g1 13 (ji (w64 (x11 + 1))) h13 fun h39=>gm h39 fun h13=>gq (.nlp ?_))))
     exact ih ((x10.set v19.1.toNat (ior .i64 v20 q21)).set v19.2.toNat (ior .i64 v23 q24)) (w64 (x11 + 1)) _ ⟨h2,h3,h11,h12,h13⟩ h
   refine .exit (.esq (.elp (.ebk (.nsq (.seq (rg (g1 3 (.agg [oI 8 [] (.of x10)]) h3 fun h40=>ye (.agg [oI 8 [] (.of x10)]) (zF h2 rfl) (zF h40 rfl) (xN (by first | rfl | simp [V.toks,V.tokss,Enc.toks_enc,yd])) (gz [(2,.ref (.bx 2) 0 [] (.agg [oI 8 [] (.of x10)]))] (zd h2 rfl) ?_))))))))
   rintro s h2
   refine .nsq (.ret ?_)
   obtain rfl:=oi h
   exact rrA (v7 h2 (by kernel_rfl)) (wY (zl0 (xd (wy (o:=.of x10)) Zr)) (Ln (xn (xD rfl) ZG)))
def YA (F:Nat) (x1:GR):Option (S1 LI):=
 (mkN x1.1 (0:Int)).bind fun mk2=>
 YE F x1 F mk2 0
theorem t33 (H:H33 D σ F) (x1:GR) (s:Nat→V) (hs:zr [(0,gV x1)] s) (h:YA F x1=some r):Run D σ (R33 r) (.run A33 []) s:=by
 unfold YA at h
 have h0:=hs
 refine .seq (zw (z3 ?_))
 refine ez [(0,_),(1,_),(2,_)] ⟨za h0 rfl mIE,ze rfl,ze rfl⟩ ?_
 rintro s ⟨h0,h1,h2⟩
 refine xo (gV x1) (zF h0 rfl) h1 rfl (xA h2 (gq (.nsq (.seq (zw (z3 ?_))))))
 refine ez [(1,_),(2,_),(3,_),(8,_)] ⟨za rfl rfl (zj rfl mIE),za rfl rfl (zj rfl (zW (zh rfl zB))),ze rfl,ze rfl⟩ ?_
 rintro s ⟨h1,h2,h3,h8⟩
 refine g1 1 (.ref (.bx 1) 0 [0] (ji x1.1)) h1 fun h6=>g1 6 (ji x1.1) h6 fun h7=>?_
 obtain ⟨mk2,Emk2,h⟩:=zb h
 refine zdz (0:Int) h7 rfl h8 Emk2 (g1 8 (.agg [oI 8 [] (.of mk2)]) (rf (oI 8 [] (.of mk2))) fun h9=>xA h3 (ye (.agg [oI 8 [] (.of mk2)]) (zF rfl rfl) (zF h9 rfl) (xN (by first | rfl | simp [V.toks,V.tokss,Enc.toks_enc,yd])) (gz [(1,bG 1 x1),(2,.ref (.bx 2) 0 [] (.agg [nI])),(3,.ref (.bx 3) 0 [] (.agg [oI 8 [] (.of mk2)]))] ⟨zd h1 (zH rfl rfl uIE),zd h2 (zH rfl rfl (yL (zy rfl rfl))),zd rfl rfl⟩ ?_)))
 rintro s ⟨h1,h2,h3⟩
 refine .nsq (.seq (.seq (rg (g1 1 (.ref (.bx 1) 0 [1] (eP x1.2)) h1 fun h10=>g1 10 (eP x1.2) h10 fun h11=>gl x1.2 h11 fun h12=>g0 (ji 0) fun h13=>gq (.nsq (.block (.loop ?_)))))))
 exact ziU H x1 F mk2 0 _ ⟨h2,h3,h11,h12,h13⟩ h
end
def e33 (F:Nat):Ent:=ent 33 (fun (x:(GR×Unit))=>YA F x.1) (fun (r:(S1 LI))=>(Enc.enc (r:(S1 LI)))) 0 false []
abbrev C33 (D:List V→Option V) (F:Nat):Prop:=∀ (x0:GR) r,YA F x0=some r→D [Enc.enc x0]=some (Enc.enc (r:(S1 LI)))
theorem p33 {F:Nat}:C33 (e33 F).den F:=fun x0 _ h=>zU (x0,()) h
theorem o33 (hF:zG Try.prog D σ) (H:H33 D σ F):(e33 F).Ok Try.prog:=okZ (f:=33) Try.func33 fun ⟨x0,_⟩ y hy=>cR hF Try.func33 c33 (t33 H x0 _ rfl hy)
end Go.Zq
