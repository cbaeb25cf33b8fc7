/- Functions of the program as typed functions, and that the machine runs as they say (part 3). No further condition. -/
import Derived.Test.YtelahampjnaimabK4
import Derived.Test.YtelahampjnaimabKC
import Derived.Test.YtelahampjnaimabProg
import Derived.Test.YtelahampjnaimabChecked
import Derived.KernelRfl
import Derived.Test.YtelahampjnaimabG2
set_option linter.unusedVariables false
set_option linter.unusedSimpArgs false
namespace Go.Zq
open Go.Proofs Go.Shelf
variable {D:Den} {σ:Sig} {F:Nat}
def zrE:AC:=(.cond (.t 11) .skip (.exit 0))
def zq7:AC:=(.cond (.t 17) (.reg [.clr [20,21]] [jm 18 5,jm 19 6,jx 20 (.lit i0 1 [(0,0,.t 19)]),jx 21 (.app .s (.t 18) (.t 20)),jm 5 21] [.home 21 5]) .skip)
def zls:AC:=(rr [jm 12 6,jv 13 (.bin .add (.t 12) (jn 1)),jm 6 13])
def zow:AC:=(.seq (.block 1 (.seq (rr [jv 14 (.load (.ag [.s,.p]) (.t 2)),jm 15 1,jm 16 6,jx 17 (.call (jf 67) [.t 14,.t 15,.t 16])]) zq7)) zls)
def N8:AC:=(.seq (.seq (rr [jm 8 6,jv 9 (.fld (.t 2) 0 0),jl 10 9,jv 11 (.bin .lss (.t 8) (.t 10))]) zrE) zow)
def zeE:AC:=(.seq (.reg [] [jm 22 5,jm 4 22] [.home 5 4]) .ret)
def zqT:AC:=(.block 0 (.loop N8))
def zo3:AC:=(.seq (.seq (rr [jv 6 (.mov (jn 0))]) zqT) zeE)
def zor:AC:=(.seq (.reg [.clr [7]] [jx 7 (.lit i0 0 []),jm 5 7] [.home 7 5]) zo3)
def A68:AC:=(.seq (.reg [.clr [2]] [jx 2 (.box (.t 0)),jv 4 (.mov (.k (.sl .nl .s 0 [])))] []) zor)
def zub:List An:=[⟨0,[.clr [2]],[],[],[]⟩,⟨1,[.clr [7]],[],[],[.home 7 5]⟩,⟨6,[.clr [20,21]],[],[],[.home 21 5]⟩,⟨7,[],[],[],[.home 5 4]⟩]
theorem c68:cq Try.prog Try.f68 zub=some A68:=by kernel_rfl
structure H68 (D:Den) (σ:Sig) (F:Nat):Prop where
 c67:C67 (D 67) F
 g67:σ 67=some (0,false)
abbrev R68 (r:LI):(Nat→V)→Prop:=RR Try.prog [.tmp 4] 0 false (eL r)
section
variable {r:LI}
def vA (F:Nat) (x2:Int) (x1:GR) (x8:Int) (c1:LI→Int→Option LI) (x15:LI):Option LI:=
 c1 x15 (w64 (x8 + 1))
theorem zcg (H:H68 D σ F) (x2:Int) (x1:GR) (x8:Int) (c1:LI→Int→Option LI) (Hc1:∀ (x7:LI) (x8:Int) (s:Nat→V),zu [(1,ji x2),(2,bG 2 x1),(4,nI),(5,oI 5 [] (.of x7)),(6,ji x8)] s→c1 x7 x8=some r→Run D σ (R68 r) (.run N8 [.lp N8,.bk 0,.sq zeE]) s) (x15:LI) (s:Nat→V) (hs:zu [(1,ji x2),(2,bG 2 x1),(4,nI),(5,oI 5 [] (.of x15)),(6,ji x8)] s) (h:vA F x2 x1 x8 c1 x15=some r):Run D σ (R68 r) (.nrm [.bk 1,.sq zls,.lp N8,.bk 0,.sq zeE]) s:=by
 unfold vA at h
 obtain ⟨h1,h2,h4,h5,h6⟩:=hs
 refine .nbk (.nsq (rg (gm h6 fun h12=>g1 12 (ji (w64 (x8 + 1))) h12 fun h13=>gm h13 fun h6=>gq (.nlp ?_))))
 exact Hc1 x15 (w64 (x8 + 1)) _ ⟨h1,h2,h4,h5,h6⟩ h
def y3 (F:Nat) (x2:Int) (x1:GR) :Nat→LI→Int→Option LI
 | 0,_,_=>none
 | k + 1,x7,x8=>
   bif decide (x8 < x1.1) then
    (ZY F x1 x2 x8).bind fun r13=>
    bif r13 then
     (vL x7 [x8]).bind fun ap16=>
     vA F x2 x1 x8 (y3 F x2 x1 k) ap16
    else
     vA F x2 x1 x8 (y3 F x2 x1 k) x7
   else
    some x7
theorem zhh (H:H68 D σ F) (x2:Int) (x1:GR) :∀ (k:Nat) (x7:LI) (x8:Int) (s:Nat→V),zu [(1,ji x2),(2,bG 2 x1),(4,nI),(5,oI 5 [] (.of x7)),(6,ji x8)] s→y3 F x2 x1 k x7 x8=some r→Run D σ (R68 r) (.run N8 [.lp N8,.bk 0,.sq zeE]) s:=by
 intro k
 induction k with
 | zero=>intro x7 x8 s _ h;exact nm h
 | succ k ih=>
   intro x7 x8 s hs h
   rw [y3] at h
   obtain ⟨h1,h2,h4,h5,h6⟩:=hs
   refine .seq (.seq (rg (gm h6 fun h8=>g1 2 (.ref (.bx 2) 0 [0] (ji x1.1)) h2 fun h9=>g1 9 (ji x1.1) h9 fun h10=>g2 8 10 (jb (decide (x8 < x1.1))) h8 h10 fun h11=>gq (.nsq (zp h11 h (fun h=>?_) (fun h=>?_))))))
   · refine .skip (.nsq (.seq (.block (.seq (rg (g1 2 (gV x1) h2 fun h14=>gm h1 fun h15=>gm h6 fun h16=>?_))))))
     obtain ⟨r13,Er13,h⟩:=zc h
     refine gcF [Enc.enc (x1:GR),Enc.enc (x2:Int),Enc.enc (x8:Int)] (zh h14 rfl (Enc.erase_enc (x1:GR)) (zh h15 rfl rfl (zh h16 rfl rfl zI))) (H.c67 _ _ _ _ Er13) H.g67 (gq (.nsq (zp rfl h (fun h=>?_) (fun h=>?_))))
     · refine zA (zZ ?_)
       refine ez [(1,_),(2,_),(4,_),(5,_),(6,_),(20,_),(21,_)] ⟨za h1 rfl mi,za h2 rfl (zi rfl mIE),za h4 rfl rfl,za h5 rfl (zo (r:=5) (p:=[]) rfl rfl),za h6 rfl mi,ze rfl,ze rfl⟩ ?_
       rintro s ⟨h1,h2,h4,h5,h6,h20,h21⟩
       refine gm h5 fun h18=>gm h6 fun h19=>wA [(19,ji x8)] [Enc.enc (x8:Int)] h19 rfl rfl h20 ?_
       obtain ⟨ap16,Eap16,h⟩:=zc h
       refine XQ (q:=5) (p:=[]) (o:=.of (x7:LI)) (ys:=([x8]:LI)) (t2:=.at 20 []) (lo2:=0) h18 rfl rfl h21 (ZT (o:=.of (x7:LI)) Eap16 trivial) (fun s20 ha20=>gm (rf (oI 21 [] (.of ap16))) fun h5=>xo (y0 (r:=21) (x:=5) (v:=_) h5 rfl (fun s21 hz21=>?_)))
       refine ez [(1,ji x2),(2,bG 2 x1),(4,nI),(5,oI 5 [] (.of ap16)),(6,ji x8)] ⟨hz21 1 _ _ (show s20 1=(ji x2) from zR ha20 h1 mi) mi,hz21 2 _ _ (show s20 2=(bG 2 x1) from zR ha20 h2 (zi rfl mIE)) (zi rfl mIE),hz21 4 _ nI (show s20 4=nI from zR ha20 h4 rfl) rfl,hz21 5 _ _ h5 (zo (r:=21) (p:=[]) rfl rfl),hz21 6 _ _ (show s20 6=(ji x8) from zR ha20 h6 mi) mi⟩ ?_
       rintro s ⟨h1,h2,h4,h5,h6⟩
       exact zcg H x2 x1 x8 (y3 F x2 x1 k) ih ap16 _ ⟨h1,h2,h4,h5,h6⟩ h
     refine .skip ?_
     exact zcg H x2 x1 x8 (y3 F x2 x1 k) ih x7 _ ⟨h1,h2,h4,h5,h6⟩ h
   refine .exit (.esq (.elp (.ebk (.nsq (.seq (rg (gm h5 fun h22=>gm h22 fun h4=>xo (y0 (r:=5) (x:=4) (v:=_) h4 rfl (fun s22 hz22=>?_)))))))))
   refine ez [(4,oI 4 [] (.of x7))] (hz22 4 _ _ h4 (zo (r:=5) (p:=[]) rfl rfl)) ?_
   rintro s h4
   refine .nsq (.ret ?_)
   obtain rfl:=oi h
   exact rrA (zr h4) (wP (vk (o:=.of x7)) (xI rfl))
def wi (F:Nat) (x1:GR) (x2:Int):Option LI:=
 y3 F x2 x1 F [] 0
theorem t68 (H:H68 D σ F) (x1:GR) (x2:Int) (s:Nat→V) (hs:zu [(0,gV x1),(1,ji x2)] s) (h:wi F x1 x2=some r):Run D σ (R68 r) (.run A68 []) s:=by
 unfold wi at h
 obtain ⟨h0,h1⟩:=hs
 refine .seq (zA (zZ ?_))
 refine ez [(0,_),(1,_),(2,_)] ⟨za h0 rfl mIE,za h1 rfl mi,ze rfl⟩ ?_
 rintro s ⟨h0,h1,h2⟩
 refine xU (gV x1) (zx h0 rfl) h2 rfl (g0 nI fun h4=>gq (.nsq (.seq (zA (zZ ?_)))))
 refine ez [(1,_),(2,_),(4,_),(7,_)] ⟨za h1 rfl mi,za rfl rfl (zi rfl mIE),za h4 rfl rfl,ze rfl⟩ ?_
 rintro s ⟨h1,h2,h4,h7⟩
 refine wA [] [] trivial rfl rfl h7 (gm (rf (oI 7 [] (.of []))) fun h5=>xo (y0 (r:=7) (x:=5) (v:=_) h5 rfl (fun s3 hz3=>?_)))
 refine ez [(1,ji x2),(2,bG 2 x1),(4,nI),(5,oI 5 [] (.of []))] ⟨hz3 1 _ _ h1 mi,hz3 2 _ _ h2 (zi rfl mIE),hz3 4 _ _ h4 rfl,hz3 5 _ _ h5 (zo (r:=7) (p:=[]) rfl rfl)⟩ ?_
 rintro s ⟨h1,h2,h4,h5⟩
 refine .nsq (.seq (.seq (rg (g0 (ji 0) fun h6=>gq (.nsq (.block (.loop ?_)))))))
 exact zhh H x2 x1 F [] 0 _ ⟨h1,h2,h4,h5,h6⟩ h
end
def e68 (F:Nat):Ent:=ent 68 (fun (x:(GR×Int×Unit))=>wi F x.1 x.2.1) (fun (r:LI)=>(eL r)) 0 false []
abbrev C68 (D:List V→Option V) (F:Nat):Prop:=∀ (x0:GR) (x1:Int) r,wi F x0 x1=some r→D [Enc.enc x0,Enc.enc x1]=some (eL r)
theorem p68 {F:Nat}:C68 (e68 F).den F:=fun x0 x1 _ h=>zS (x0,x1,()) h
theorem o68 (hF:zF Try.prog D σ) (H:H68 D σ F):(e68 F).Ok Try.prog:=okZ (f:=68) Try.func68 fun ⟨x0,x1,_⟩ y hy=>cR hF Try.func68 c68 (t68 H x0 x1 _ ⟨rfl,rfl⟩ hy)
def ziB:AC:=(.cond (.t 31) (.seq (rr [jm 32 0,jm 4 32]) .ret) .skip)
def ziU:AC:=(.seq (.reg [.clr [33,37,39,40,44]] [jy 33 (.lit i0 0 []),jm 34 0,jm 35 5,jv 36 (.slice (.t 34) none (some (.t 35)) 1),jy 37 (.appS .s (.t 33) (.t 36)),jm 38 1,jx 39 (.lit i0 1 [(0,0,.t 38)]),jy 40 (.appS .s (.t 37) (.t 39)),jm 41 0,jm 42 5,jv 43 (.slice (.t 41) (some (.t 42)) none 1),jx 44 (.appS .s (.t 40) (.t 43)),jm 4 44] [.home 44 4]) .ret)
def zhk:AC:=(.cond (.t 17) .skip (.exit 0))
def zgC:AC:=(.block 1 (rr [jm 18 5,jv 19 (.bin .add (.t 18) (jn 1)),jm 5 19]))
def Lb:AC:=(.seq (.seq (rr [jm 6 5,jm 7 0,jk 8 7,jv 9 (.bin .lss (.t 6) (.t 8)),jm 10 9,jg 11 10 true (.mov (.t 0)),jg 12 10 true (.mov (.t 5)),jg 13 10 true (.idx (.t 11) (.t 12) 1),jg 14 10 true (.load .s (.t 13)),jg 15 10 true (.mov (.t 1)),jg 16 10 true (.bin .lss (.t 14) (.t 15)),jv 17 (.pick (.t 10) (.t 16) kf)]) zhk) zgC)
def QC:AC:=(.seq (.seq (rr [jm 20 5,jm 21 0,jk 22 21,jv 23 (.bin .lss (.t 20) (.t 22)),jm 24 23,jg 25 24 true (.mov (.t 0)),jg 26 24 true (.mov (.t 5)),jg 27 24 true (.idx (.t 25) (.t 26) 1),jg 28 24 true (.load .s (.t 27)),jg 29 24 true (.mov (.t 1)),jg 30 24 true (.bin .eql (.t 28) (.t 29)),jv 31 (.pick (.t 24) (.t 30) kf)]) ziB) ziU)
def zmv:AC:=(.seq (.block 0 (.loop Lb)) QC)
def zme:AC:=(.seq (rr [jv 5 (.mov (jn 0))]) zmv)
def zn2:AC:=(.seq (.reg [] [jv 4 (.mov (.k (.sl .nl .s 0 [])))] [.home zN 0]) zme)
def zp8:List An:=[⟨0,[],[],[],[.home zN 0]⟩,⟨6,[.clr [33,37,39,40,44]],[0,4,7],[4,7,11],[.home 44 4]⟩]
theorem c77o:cq Try.prog Try.f77 zp8=some zn2:=by kernel_rfl
structure zhg (D:Den) (σ:Sig) (F:Nat):Prop where
 mk ::
abbrev zg9 (r:(NL Int)):(Nat→V)→Prop:=RR Try.prog [.tmp 4] 1 false (zm .sh (r:NL Int))
section
variable {r:(NL Int)}
def Zv (F:Nat) (x1:(On Int)) (x2:Int) (x6:Int)  (x13:Bool):Option (NL Int):=
 bif x13 then
  some x1.v
 else
  (zfL x1.v).bind fun li14=>
  (sub li14 0 x6).bind fun sub15=>
  (vL [] sub15).bind fun ap16=>
  (vL ap16 [x2]).bind fun ap17=>
  (sub li14 x6 (li14.length:Int)).bind fun sub18=>
  (vL ap17 sub18).bind fun ap19=>
  some (.of ap19)
theorem NO (H:zhg D σ F) (x1:(On Int)) (x2:Int) (x6:Int)  (x13:Bool) (s:Nat→V) (hs:zu [(0,oI 0 [] x1.v),(1,ji x2),(4,nI),(5,ji x6),(31,jb x13)] s) (h:Zv F x1 x2 x6  x13=some r):Run D σ (zg9 r) (.nrm [.sq ziB,.sq ziU]) s:=by
 unfold Zv at h
 obtain ⟨h0,h1,h4,h5,h31⟩:=hs
 refine .nsq (zp h31 h (fun h=>?_) (fun h=>?_))
 · refine .seq (rg (gv (oI 0 [] x1.v) (xQ h0 yG) fun h32=>gv (oI 0 [] x1.v) (xQ h32 yG) fun h4=>gq (.nsq (.ret ?_))))
   obtain rfl:=oi h
   exact rrA (zr h4) (YS (YL (o:=(x1.v:NL Int))) rfl (xI rfl))
 refine .skip (.nsq (.seq (zA (zZ ?_))))
 refine ez [(0,_),(1,_),(4,_),(5,_),(33,_),(37,_),(39,_),(40,_),(44,_)] ⟨za h0 rfl (zo (r:=0) (p:=[]) rfl rfl),za h1 rfl mi,za h4 rfl rfl,za h5 rfl mi,ze rfl,ze rfl,ze rfl,ze rfl,ze rfl⟩ ?_
 rintro s ⟨h0,h1,h4,h5,h33,h37,h39,h40,h44⟩
 refine zav [] [] trivial rfl rfl h33 (gv (oI 0 [] x1.v) (xQ h0 yG) fun h34=>gm h5 fun h35=>?_)
 obtain ⟨li14,Eli14,h⟩:=zc h
 obtain ⟨sub15,Esub15,h⟩:=zc h
 refine gv (.sl (.at 0 []) (Enc.shp Int) (Int.toNat 0) ((sub15:LI).map Enc.enc)) (JQ (xs:=li14) (Qc Eli14 h34) (ZD) (ZC h35) Esub15 rfl) fun h36=>?_
 obtain ⟨ap16,Eap16,h⟩:=zc h
 refine Uz (p:=[]) (xs:=[]) (ys:=(sub15:LI)) (t2:=.at 0 []) (lo2:=Int.toNat 0) rfl h36 rfl h37 rfl Eap16 (gm h1 fun h38=>wA [(38,ji x2)] [Enc.enc (x2:Int)] h38 rfl rfl h39 ?_)
 obtain ⟨ap17,Eap17,h⟩:=zc h
 refine Uz (p:=[]) (xs:=ap16) (ys:=([x2]:LI)) (t2:=.at 39 []) (lo2:=0) rfl rfl rfl h40 rfl Eap17 (gm (Qc Eli14 h0) fun h41=>gm h5 fun h42=>?_)
 obtain ⟨sub18,Esub18,h⟩:=zc h
 refine gv (.sl (.at 0 []) (Enc.shp Int) (Int.toNat x6) ((sub18:LI).map Enc.enc)) (JQ (xs:=li14) h41 (ZC h42) (ZD) Esub18 rfl) fun h43=>?_
 obtain ⟨ap19,Eap19,h⟩:=zc h
 refine Uz (p:=[]) (xs:=ap17) (ys:=(sub18:LI)) (t2:=.at 0 []) (lo2:=Int.toNat x6) rfl h43 rfl h44 rfl Eap19 (gm (rf (oI 44 [] (.of ap19))) fun h4=>xo (y0 (r:=44) (x:=4) (v:=_) h4 rfl (fun s3 hz3=>?_)))
 refine ez [(4,oI 4 [] (.of ap19))] (hz3 4 _ _ h4 (zo (r:=44) (p:=[]) rfl rfl)) ?_
 rintro s h4
 refine .nsq (.ret ?_)
 obtain rfl:=oi h
 exact rrA (zr h4) (YS (YL (o:=((.of ap19):NL Int))) rfl (xI rfl))
def ZQ (F:Nat) (x1:(On Int)) (x2:Int) (x6:Int) (c1:Int→Option (NL Int)) (x11:Bool):Option (NL Int):=
 bif x11 then
  c1 (w64 (x6 + 1))
 else
  bif decide (x6 < (x1.v.list.length:Int)) then
   (idx x1.v.list x6).bind fun v20=>
   Zv F x1 x2 x6 (v20 == x2)
  else
   Zv F x1 x2 x6 false
theorem Qm (H:zhg D σ F) (x1:(On Int)) (x2:Int) (x6:Int) (c1:Int→Option (NL Int)) (Hc1:∀ (x6:Int) (s:Nat→V),zu [(0,oI 0 [] x1.v),(1,ji x2),(4,nI),(5,ji x6)] s→c1 x6=some r→Run D σ (zg9 r) (.run Lb [.lp Lb,.bk 0,.sq QC]) s) (x11:Bool) (s:Nat→V) (hs:zu [(0,oI 0 [] x1.v),(1,ji x2),(4,nI),(5,ji x6),(17,jb x11)] s) (h:ZQ F x1 x2 x6 c1 x11=some r):Run D σ (zg9 r) (.nrm [.sq zhk,.sq zgC,.lp Lb,.bk 0,.sq QC]) s:=by
 unfold ZQ at h
 obtain ⟨h0,h1,h4,h5,h17⟩:=hs
 refine .nsq (zp h17 h (fun h=>?_) (fun h=>?_))
 · refine .skip (.nsq (.block (rg (gm h5 fun h18=>g1 18 (ji (w64 (x6 + 1))) h18 fun h19=>gm h19 fun h5=>gq (.nbk (.nlp ?_))))))
   exact Hc1 (w64 (x6 + 1)) _ ⟨h0,h1,h4,h5⟩ h
 refine .exit (.esq (.elp (.ebk (.nsq (.seq (.seq (rg (gm h5 fun h20=>gv (oI 0 [] x1.v) (xQ h0 yG) fun h21=>gv (ji (x1.v.list.length:Int)) (XZ (o:=x1.v) h21) fun h22=>g2 20 22 (jb (decide (x6 < (x1.v.list.length:Int)))) h20 h22 fun h23=>gm h23 fun h24=>yj h (fun hg5 h=>?_) (fun hg5 h=>?_)))))))))
 · refine zt (ct h24 hg5) (gv (oI 0 [] x1.v) (xQ h0 yG) fun h25=>zt (ct h24 hg5) (gm h5 fun h26=>?_))
   obtain ⟨v20,Ev20,h⟩:=zc h
   refine zt (ct h24 hg5) (gv (.ref (.at 0 []) x6.toNat [] (ji v20)) (vZ (o:=x1.v) h25 h26 Ev20 rfl) fun h27=>zt (ct h24 hg5) (g1 27 (ji v20) h27 fun h28=>zt (ct h24 hg5) (gm h1 fun h29=>zt (ct h24 hg5) (g2 28 29 (jb (v20 == x2)) h28 h29 fun h30=>g2 24 30 (jb (v20 == x2)) (ct h24 hg5) h30 fun h31=>gq ?_))))
   exact NO H x1 x2 x6 (v20 == x2) _ ⟨h0,h1,h4,h5,h31⟩ h
 iterate 6 refine yY (ct h24 hg5) ?_
 refine g2 24 30 (jb false) (ct h24 hg5) (rf (.tup [])) fun h31=>gq ?_
 exact NO H x1 x2 x6 false _ ⟨h0,h1,h4,h5,h31⟩ h
def wZ (F:Nat) (x1:(On Int)) (x2:Int) :Nat→Int→Option (NL Int)
 | 0,_=>none
 | k + 1,x6=>
   bif decide (x6 < (x1.v.list.length:Int)) then
    (idx x1.v.list x6).bind fun v21=>
    ZQ F x1 x2 x6 (wZ F x1 x2 k) (decide (v21 < x2))
   else
    ZQ F x1 x2 x6 (wZ F x1 x2 k) false
theorem zge (H:zhg D σ F) (x1:(On Int)) (x2:Int) :∀ (k:Nat) (x6:Int) (s:Nat→V),zu [(0,oI 0 [] x1.v),(1,ji x2),(4,nI),(5,ji x6)] s→wZ F x1 x2 k x6=some r→Run D σ (zg9 r) (.run Lb [.lp Lb,.bk 0,.sq QC]) s:=by
 intro k
 induction k with
 | zero=>intro x6 s _ h;exact nm h
 | succ k ih=>
   intro x6 s hs h
   rw [wZ] at h
   obtain ⟨h0,h1,h4,h5⟩:=hs
   refine .seq (.seq (rg (gm h5 fun h6=>gv (oI 0 [] x1.v) (xQ h0 yG) fun h7=>gv (ji (x1.v.list.length:Int)) (XZ (o:=x1.v) h7) fun h8=>g2 6 8 (jb (decide (x6 < (x1.v.list.length:Int)))) h6 h8 fun h9=>gm h9 fun h10=>yj h (fun hg5 h=>?_) (fun hg5 h=>?_))))
   · refine zt (ct h10 hg5) (gv (oI 0 [] x1.v) (xQ h0 yG) fun h11=>zt (ct h10 hg5) (gm h5 fun h12=>?_))
     obtain ⟨v21,Ev21,h⟩:=zc h
     refine zt (ct h10 hg5) (gv (.ref (.at 0 []) x6.toNat [] (ji v21)) (vZ (o:=x1.v) h11 h12 Ev21 rfl) fun h13=>zt (ct h10 hg5) (g1 13 (ji v21) h13 fun h14=>zt (ct h10 hg5) (gm h1 fun h15=>zt (ct h10 hg5) (g2 14 15 (jb (decide (v21 < x2))) h14 h15 fun h16=>g2 10 16 (jb (decide (v21 < x2))) (ct h10 hg5) h16 fun h17=>gq ?_))))
     exact Qm H x1 x2 x6 (wZ F x1 x2 k) ih (decide (v21 < x2)) _ ⟨h0,h1,h4,h5,h17⟩ h
   iterate 6 refine yY (ct h10 hg5) ?_
   refine g2 10 16 (jb false) (ct h10 hg5) (rf (.tup [])) fun h17=>gq ?_
   exact Qm H x1 x2 x6 (wZ F x1 x2 k) ih false _ ⟨h0,h1,h4,h5,h17⟩ h
def We (F:Nat) (x1:(On Int)) (x2:Int):Option (NL Int):=
 wZ F x1 x2 F 0
theorem ztb (H:zhg D σ F) (x1:(On Int)) (x2:Int) (s:Nat→V) (hs:zu [(0,oI zN [] x1.v),(1,ji x2)] s) (h:We F x1 x2=some r):Run D σ (zg9 r) (.run zn2 []) s:=by
 unfold We at h
 obtain ⟨h0,h1⟩:=hs
 refine .seq (rg (g0 nI fun h4=>xo (y0 (r:=zN) (x:=0) (v:=_) h0 yG (fun s1 hz1=>?_))))
 refine ez [(0,oI 0 [] x1.v),(1,ji x2),(4,nI)] ⟨hz1 0 _ _ h0 (zo (r:=zN) (p:=[]) rfl rfl),hz1 1 _ _ h1 mi,hz1 4 _ _ h4 rfl⟩ ?_
 rintro s ⟨h0,h1,h4⟩
 refine .nsq (.seq (rg (g0 (ji 0) fun h5=>gq (.nsq (.seq (.block (.loop ?_)))))))
 exact zge H x1 x2 F 0 _ ⟨h0,h1,h4,h5⟩ h
end
def zms (F:Nat):Ent:=ent 1000000077 (fun (x:((On Int)×Int×Unit))=>We F x.1 x.2.1) (fun (r:(NL Int))=>(zm .sh (r:NL Int))) US false []
abbrev zoy (D:List V→Option V) (F:Nat):Prop:=∀ (x0:(On Int)) (x1:Int) r,We F x0 x1=some r→D [Arg.arg x0,Enc.enc x1]=some (zm .sh (r:NL Int))
theorem ztd {F:Nat}:zoy (zms F).den F:=fun x0 x1 _ h=>zS (x0,x1,()) h
theorem zuq {D:Den} {σ:Sig} {F:Nat} (hF:zF Try.prog D σ) (H:zhg D σ F):(zms F).Ok Try.prog:=by
 refine zb6 (f:=77) (show unk 1000000077=77 from rfl) (fun args r h=>?_) ⟨Try.f77,Try.func77,rfl,rfl⟩
 obtain ⟨⟨x0,x1,_⟩,y,rfl,hy,rfl⟩:=Kw h
 exact Nu hF (by kernel_rfl) Try.func77 rfl c77o (zft wY (zft rfl rfl)) (show 2≤Try.f77.ntmps by decide) (by decide) (ztb H x0 x1 _ ⟨rfl,rfl⟩ hy)
def znG:AC:=(.cond (.t 18) .skip (.exit 0))
def zlS:AC:=(.cond (.t 30) .skip (.exit 2))
def znp:AC:=(.cond (.t 38) (.exit 3) .skip)
def zkb:AC:=(.cond (.t 44) (.reg [.clr [50,51]] [jm 45 8,jm 46 10,jm 47 11,jv 48 (.idx (.t 46) (.t 47) 1),jl 49 48,jx 50 (.lit i0 1 [(0,0,.t 49)]),jx 51 (.app .s (.t 45) (.t 50)),jm 8 51] [.home 51 8]) (.reg [.clr [57]] [jm 52 7,jm 53 10,jm 54 11,jv 55 (.idx (.t 53) (.t 54) 1),jl 56 55,jx 57 (.callG (jf 77) 0 [.t 52,.t 56]),jm 7 57] [.home 57 7]))
def zkh:AC:=(.seq (rr [jm 39 1,jm 40 10,jm 41 11,jv 42 (.idx (.t 40) (.t 41) 1),jl 43 42,jx 44 (.call (jf 38) [.t 39,.t 43])]) zkb)
def zeJ:AC:=(rr [jm 31 11,jv 32 (.bin .add (.t 31) (jn 1)),jm 11 32])
def znh:AC:=(.seq (.block 3 (.seq (.seq (rr [jm 33 8,jm 34 10,jm 35 11,jv 36 (.idx (.t 34) (.t 35) 1),jl 37 36,jx 38 (.call (jf 38) [.t 33,.t 37])]) znp) zkh)) zeJ)
def Lw:AC:=(.seq (.seq (rr [jm 27 11,jm 28 10,jk 29 28,jv 30 (.bin .lss (.t 27) (.t 29))]) zlS) znh)
def zl9:AC:=(.block 2 (.loop Lw))
def znP:AC:=(.seq (rr [jv 11 (.mov (jn 0))]) zl9)
def LX:AC:=(rr [jm 19 9,jv 20 (.bin .add (.t 19) (jn 1)),jm 9 20])
def znd:AC:=(.seq (.block 1 (.seq (rr [jv 21 (.load (.ag [.s,.p]) (.t 3)),jm 22 8,jm 23 9,jv 24 (.idx (.t 22) (.t 23) 1),jl 25 24,jx 26 (.call (jf 68) [.t 21,.t 25]),jm 10 26]) znP)) LX)
def WR:AC:=(.seq (.seq (rr [jm 15 9,jm 16 8,jk 17 16,jv 18 (.bin .lss (.t 15) (.t 17))]) znG) znd)
def UB:AC:=(.seq (.reg [] [jm 58 7,jm 6 58] [.home 7 6]) .ret)
def zj6:AC:=(.block 0 (.loop WR))
def zkI:AC:=(.seq (.seq (rr [jv 9 (.mov (jn 0))]) zj6) UB)
def zkP:AC:=(.seq (.reg [.clr [12,14]] [jx 12 (.lit i0 0 []),jm 13 2,jx 14 (.lit i0 1 [(0,0,.t 13)]),jm 7 12,jm 8 14] [.home 12 7,.home 14 8]) zkI)
def zov:AC:=(.seq (.reg [.clr [3]] [jx 3 (.box (.t 0)),jv 6 (.mov (.k (.sl .nl .s 0 [])))] []) zkP)
def zou:List An:=[⟨0,[.clr [3]],[],[],[]⟩,⟨1,[.clr [12,14]],[],[],[.home 12 7,.home 14 8]⟩,⟨11,[.clr [50,51]],[],[],[.home 51 8]⟩,⟨12,[.clr [57]],[],[2005],[.home 57 7]⟩,⟨13,[],[],[],[.home 7 6]⟩]
theorem c57o:cq Try.prog Try.f57 zou=some zov:=by kernel_rfl
structure ziZ (D:Den) (σ:Sig) (F:Nat):Prop where
 c68:C68 (D 68) F
 g68:σ 68=some (0,false)
 c38:C38 (D 38) F
 g38:σ 38=some (0,false)
 c77o:zoy (D 1000000077) F
 g77o:σ 1000000077=some (US,false)
abbrev zdN (r:(NL Int)):(Nat→V)→Prop:=RR Try.prog [.tmp 6] 1 false (zm .sh (r:NL Int))
section
variable {r:(NL Int)}
def Zj (F:Nat) (x2:LI) (x1:GR) (x53:Int) (r102:LI) (x119:Int) (c1:(NL Int)→LI→Int→Option (NL Int)) (c4:(NL Int)→LI→Int→Option (NL Int)) (x142:(NL Int)) (x143:LI):Option (NL Int):=
 c4 x142 x143 (w64 (x119 + 1))
theorem NI (H:ziZ D σ F) (x2:LI) (x1:GR) (x53:Int) (r102:LI) (x119:Int) (c1:(NL Int)→LI→Int→Option (NL Int)) (Hc1:∀ (x51:(NL Int)) (x52:LI) (x53:Int) (s:Nat→V),zu [(1,eL x2),(3,bG 3 x1),(6,nI),(7,oI 7 [] x51),(8,oI 8 [] (.of x52)),(9,ji x53)] s→c1 x51 x52 x53=some r→Run D σ (zdN r) (.run WR [.lp WR,.bk 0,.sq UB]) s) (c4:(NL Int)→LI→Int→Option (NL Int)) (Hc4:∀ (x117:(NL Int)) (x118:LI) (x119:Int) (s:Nat→V),zu [(1,eL x2),(3,bG 3 x1),(6,nI),(7,oI 7 [] x117),(8,oI 8 [] (.of x118)),(9,ji x53),(10,eL r102),(11,ji x119)] s→c4 x117 x118 x119=some r→Run D σ (zdN r) (.run Lw [.lp Lw,.bk 2,.bk 1,.sq LX,.lp WR,.bk 0,.sq UB]) s) (x142:(NL Int)) (x143:LI) (s:Nat→V) (hs:zu [(1,eL x2),(3,bG 3 x1),(6,nI),(7,oI 7 [] x142),(8,oI 8 [] (.of x143)),(9,ji x53),(10,eL r102),(11,ji x119)] s) (h:Zj F x2 x1 x53 r102 x119 c1 c4 x142 x143=some r):Run D σ (zdN r) (.nrm [.bk 3,.sq zeJ,.lp Lw,.bk 2,.bk 1,.sq LX,.lp WR,.bk 0,.sq UB]) s:=by
 unfold Zj at h
 obtain ⟨h1,h3,h6,h7,h8,h9,h10,h11⟩:=hs
 refine .nbk (.nsq (rg (gm h11 fun h31=>g1 31 (ji (w64 (x119 + 1))) h31 fun h32=>gm h32 fun h11=>gz [(1,_),(3,_),(6,_),(7,_),(8,_),(9,_),(10,_),(11,_)] ⟨h1,h3,h6,h7,h8,h9,h10,h11⟩ ?_)))
 rintro s ⟨h1,h3,h6,h7,h8,h9,h10,h11⟩
 refine .nlp ?_
 exact Hc4 x142 x143 (w64 (x119 + 1)) _ ⟨h1,h3,h6,h7,h8,h9,h10,h11⟩ h
def wk (F:Nat) (x2:LI) (x1:GR) (x53:Int) (r102:LI) (c1:(NL Int)→LI→Int→Option (NL Int)):Nat→(NL Int)→LI→Int→Option (NL Int)
 | 0,_,_,_=>none
 | k + 1,x117,x118,x119=>
   bif decide (x119 < (r102.length:Int)) then
    (idx r102 x119).bind fun v134=>
    (ul F x118 v134).bind fun r135=>
    bif r135 then
     (wk F x2 x1 x53 r102 c1 k) x117 x118 (w64 (x119 + 1))
    else
     (idx r102 x119).bind fun v136=>
     (ul F x2 v136).bind fun r137=>
     bif r137 then
      (idx r102 x119).bind fun v144=>
      (vL x118 [v144]).bind fun ap145=>
      Zj F x2 x1 x53 r102 x119 c1 (wk F x2 x1 x53 r102 c1 k) x117 ap145
     else
      (idx r102 x119).bind fun v146=>
      (We F (On.mk x117:On Int) v146).bind fun r147=>
      Zj F x2 x1 x53 r102 x119 c1 (wk F x2 x1 x53 r102 c1 k) r147 x118
   else
    c1 x117 x118 (w64 (x53 + 1))
theorem zgc (H:ziZ D σ F) (x2:LI) (x1:GR) (x53:Int) (r102:LI) (c1:(NL Int)→LI→Int→Option (NL Int)) (Hc1:∀ (x51:(NL Int)) (x52:LI) (x53:Int) (s:Nat→V),zu [(1,eL x2),(3,bG 3 x1),(6,nI),(7,oI 7 [] x51),(8,oI 8 [] (.of x52)),(9,ji x53)] s→c1 x51 x52 x53=some r→Run D σ (zdN r) (.run WR [.lp WR,.bk 0,.sq UB]) s):∀ (k:Nat) (x117:(NL Int)) (x118:LI) (x119:Int) (s:Nat→V),zu [(1,eL x2),(3,bG 3 x1),(6,nI),(7,oI 7 [] x117),(8,oI 8 [] (.of x118)),(9,ji x53),(10,eL r102),(11,ji x119)] s→wk F x2 x1 x53 r102 c1 k x117 x118 x119=some r→Run D σ (zdN r) (.run Lw [.lp Lw,.bk 2,.bk 1,.sq LX,.lp WR,.bk 0,.sq UB]) s:=by
 intro k
 induction k with
 | zero=>intro x117 x118 x119 s _ h;exact nm h
 | succ k ih=>
   intro x117 x118 x119 s hs h
   rw [wk] at h
   obtain ⟨h1,h3,h6,h7,h8,h9,h10,h11⟩:=hs
   refine .seq (.seq (rg (gm h11 fun h27=>gm h10 fun h28=>gl r102 h28 fun h29=>g2 27 29 (jb (decide (x119 < (r102.length:Int)))) h27 h29 fun h30=>gq (.nsq (zp h30 h (fun h=>?_) (fun h=>?_))))))
   · refine .skip (.nsq (.seq (.block (.seq (.seq (rg (gm h8 fun h33=>gm h10 fun h34=>gm h11 fun h35=>?_)))))))
     obtain ⟨v134,Ev134,h⟩:=zc h
     refine gv (.ref .sh 0 [] (ji v134)) (yV (t:=.sh) (lo:=0) (xs:=r102) h34 h35 Ev134 rfl rfl) fun h36=>g1 36 (ji v134) h36 fun h37=>?_
     obtain ⟨r135,Er135,h⟩:=zc h
     refine gcF [eL x118,Enc.enc (v134:Int)] (zh h33 rfl (vK (o:=.of x118)) (zh h37 rfl rfl zI)) (H.c38 _ _ _ Er135) H.g38 (gq (.nsq (zp rfl h (fun h=>?_) (fun h=>?_))))
     · refine .exit (.esq (.ebk (.nsq (rg (gm h11 fun h31=>g1 31 (ji (w64 (x119 + 1))) h31 fun h32=>gm h32 fun h11=>gq (.nlp ?_))))))
       exact ih x117 x118 (w64 (x119 + 1)) _ ⟨h1,h3,h6,h7,h8,h9,h10,h11⟩ h
     refine .skip (.nsq (.seq (rg (gm h1 fun h39=>gm h10 fun h40=>gm h11 fun h41=>?_))))
     obtain ⟨v136,Ev136,h⟩:=zc h
     refine gv (.ref .sh 0 [] (ji v136)) (yV (t:=.sh) (lo:=0) (xs:=r102) h40 h41 Ev136 rfl rfl) fun h42=>g1 42 (ji v136) h42 fun h43=>?_
     obtain ⟨r137,Er137,h⟩:=zc h
     refine gcF [eL x2,Enc.enc (v136:Int)] (zh h39 rfl (Enc.erase_enc (x2:LI)) (zh h43 rfl rfl zI)) (H.c38 _ _ _ Er137) H.g38 (gq (.nsq (zp rfl h (fun h=>?_) (fun h=>?_))))
     · refine zA (zZ ?_)
       refine ez [(1,_),(3,_),(6,_),(7,_),(8,_),(9,_),(10,_),(11,_),(50,_),(51,_)] ⟨za h1 rfl me,za h3 rfl (zi rfl mIE),za h6 rfl rfl,za h7 rfl (zo (r:=7) (p:=[]) rfl rfl),za h8 rfl (zo (r:=8) (p:=[]) rfl rfl),za h9 rfl mi,za h10 rfl me,za h11 rfl mi,ze rfl,ze rfl⟩ ?_
       rintro s ⟨h1,h3,h6,h7,h8,h9,h10,h11,h50,h51⟩
       refine gm h8 fun h45=>gm h10 fun h46=>gm h11 fun h47=>?_
       obtain ⟨v144,Ev144,h⟩:=zc h
       refine gv (.ref .sh 0 [] (ji v144)) (yV (t:=.sh) (lo:=0) (xs:=r102) h46 h47 Ev144 rfl rfl) fun h48=>g1 48 (ji v144) h48 fun h49=>wA [(49,ji v144)] [Enc.enc (v144:Int)] h49 rfl rfl h50 ?_
       obtain ⟨ap145,Eap145,h⟩:=zc h
       refine XQ (q:=8) (p:=[]) (o:=.of (x118:LI)) (ys:=([v144]:LI)) (t2:=.at 50 []) (lo2:=0) h45 rfl rfl h51 (ZT (o:=.of (x118:LI)) Eap145 trivial) (fun s108 ha108=>gm (rf (oI 51 [] (.of ap145))) fun h8=>xo (y0 (r:=51) (x:=8) (v:=_) h8 rfl (fun s109 hz109=>?_)))
       refine ez [(1,eL x2),(3,bG 3 x1),(6,nI),(7,oI 7 [] x117),(8,oI 8 [] (.of ap145)),(9,ji x53),(10,eL r102),(11,ji x119)] ⟨hz109 1 _ _ (show s108 1=(eL x2) from zR ha108 h1 me) me,hz109 3 _ _ (show s108 3=(bG 3 x1) from zR ha108 h3 (zi rfl mIE)) (zi rfl mIE),hz109 6 _ nI (show s108 6=nI from zR ha108 h6 rfl) rfl,hz109 7 _ _ (show s108 7=(oI 7 [] x117) from zR ha108 h7 (zo (r:=7) (p:=[]) rfl rfl)) (zo (r:=7) (p:=[]) rfl rfl),hz109 8 _ _ h8 (zo (r:=51) (p:=[]) rfl rfl),hz109 9 _ _ (show s108 9=(ji x53) from zR ha108 h9 mi) mi,hz109 10 _ _ (show s108 10=(eL r102) from zR ha108 h10 me) me,hz109 11 _ _ (show s108 11=(ji x119) from zR ha108 h11 mi) mi⟩ ?_
       rintro s ⟨h1,h3,h6,h7,h8,h9,h10,h11⟩
       exact NI H x2 x1 x53 r102 x119 c1 Hc1 (wk F x2 x1 x53 r102 c1 k) ih x117 ap145 _ ⟨h1,h3,h6,h7,h8,h9,h10,h11⟩ h
     refine zA (zZ ?_)
     refine ez [(1,_),(3,_),(6,_),(7,_),(8,_),(9,_),(10,_),(11,_),(57,_)] ⟨za h1 rfl me,za h3 rfl (zi rfl mIE),za h6 rfl rfl,za h7 rfl (zo (r:=7) (p:=[]) rfl rfl),za h8 rfl (zo (r:=8) (p:=[]) rfl rfl),za h9 rfl mi,za h10 rfl me,za h11 rfl mi,ze rfl⟩ ?_
     rintro s ⟨h1,h3,h6,h7,h8,h9,h10,h11,h57⟩
     refine gv (oI 7 [] x117) (xQ h7 yG) fun h52=>gm h10 fun h53=>gm h11 fun h54=>?_
     obtain ⟨v146,Ev146,h⟩:=zc h
     refine gv (.ref .sh 0 [] (ji v146)) (yV (t:=.sh) (lo:=0) (xs:=r102) h53 h54 Ev146 rfl rfl) fun h55=>g1 55 (ji v146) h55 fun h56=>?_
     obtain ⟨r147,Er147,h⟩:=zc h
     refine zkD (q:=7) (p:=[]) (o:=(x117:NL Int)) (r:=zm .sh (r147:NL Int)) (u:=oI 57 [] r147) (kk:=1000000077) [.bool true,Enc.enc (v146:Int)] rfl h52 rfl H.g77o vi vW wY h57 (by decide) (fun s111 ha111=>⟨by exact (zh (v:=.bool true) rfl rfl rfl (zh (v:=ji v146) (show s111 56=(ji v146) from zR ha111 h56 mi) rfl rfl zI)),by exact (H.c77o _ _ _ Er147),?_⟩)
     refine gv (oI 57 [] r147) (xQ rfl yG) fun h7=>xo (y0 (r:=57) (x:=7) (v:=_) h7 yG (fun s112 hz112=>?_))
     refine ez [(1,eL x2),(3,bG 3 x1),(6,nI),(7,oI 7 [] r147),(8,oI 8 [] (.of x118)),(9,ji x53),(10,eL r102),(11,ji x119)] ⟨hz112 1 _ _ (show s111 1=(eL x2) from zR ha111 h1 me) me,hz112 3 _ _ (show s111 3=(bG 3 x1) from zR ha111 h3 (zi rfl mIE)) (zi rfl mIE),hz112 6 _ nI (show s111 6=nI from zR ha111 h6 rfl) rfl,hz112 7 _ _ h7 (zo (r:=57) (p:=[]) rfl rfl),hz112 8 _ _ (show s111 8=(oI 8 [] (.of x118)) from zR ha111 h8 (zo (r:=8) (p:=[]) rfl rfl)) (zo (r:=8) (p:=[]) rfl rfl),hz112 9 _ _ (show s111 9=(ji x53) from zR ha111 h9 mi) mi,hz112 10 _ _ (show s111 10=(eL r102) from zR ha111 h10 me) me,hz112 11 _ _ (show s111 11=(ji x119) from zR ha111 h11 mi) mi⟩ ?_
     rintro s ⟨h1,h3,h6,h7,h8,h9,h10,h11⟩
     exact NI H x2 x1 x53 r102 x119 c1 Hc1 (wk F x2 x1 x53 r102 c1 k) ih r147 x118 _ ⟨h1,h3,h6,h7,h8,h9,h10,h11⟩ h
   refine .exit (.esq (.elp (.ebk (.nbk (.nsq (rg (gm h9 fun h19=>g1 19 (ji (w64 (x53 + 1))) h19 fun h20=>gm h20 fun h9=>gq (.nlp ?_))))))))
   exact Hc1 x117 x118 (w64 (x53 + 1)) _ ⟨h1,h3,h6,h7,h8,h9⟩ h
def vH (F:Nat) (x2:LI) (x1:GR) :Nat→(NL Int)→LI→Int→Option (NL Int)
 | 0,_,_,_=>none
 | k + 1,x51,x52,x53=>
   bif decide (x53 < (x52.length:Int)) then
    (idx x52 x53).bind fun v101=>
    (wi F x1 v101).bind fun r102=>
    wk F x2 x1 x53 r102 (vH F x2 x1 k) F x51 x52 0
   else
    some x51
theorem zgm (H:ziZ D σ F) (x2:LI) (x1:GR) :∀ (k:Nat) (x51:(NL Int)) (x52:LI) (x53:Int) (s:Nat→V),zu [(1,eL x2),(3,bG 3 x1),(6,nI),(7,oI 7 [] x51),(8,oI 8 [] (.of x52)),(9,ji x53)] s→vH F x2 x1 k x51 x52 x53=some r→Run D σ (zdN r) (.run WR [.lp WR,.bk 0,.sq UB]) s:=by
 intro k
 induction k with
 | zero=>intro x51 x52 x53 s _ h;exact nm h
 | succ k ih=>
   intro x51 x52 x53 s hs h
   rw [vH] at h
   obtain ⟨h1,h3,h6,h7,h8,h9⟩:=hs
   refine .seq (.seq (rg (gm h9 fun h15=>gm h8 fun h16=>gv (ji (x52.length:Int)) (XZ (o:=.of x52) h16) fun h17=>g2 15 17 (jb (decide (x53 < (x52.length:Int)))) h15 h17 fun h18=>gq (.nsq (zp h18 h (fun h=>?_) (fun h=>?_))))))
   · refine .skip (.nsq (.seq (.block (.seq (rg (g1 3 (gV x1) h3 fun h21=>gm h8 fun h22=>gm h9 fun h23=>?_))))))
     obtain ⟨v101,Ev101,h⟩:=zc h
     refine gv (.ref (.at 8 []) x53.toNat [] (ji v101)) (vZ (o:=.of x52) h22 h23 Ev101 rfl) fun h24=>g1 24 (ji v101) h24 fun h25=>?_
     obtain ⟨r102,Er102,h⟩:=zc h
     refine gcF [Enc.enc (x1:GR),Enc.enc (v101:Int)] (zh h21 rfl (Enc.erase_enc (x1:GR)) (zh h25 rfl rfl zI)) (H.c68 _ _ _ Er102) H.g68 (gm (rf (eL r102)) fun h10=>gq (.nsq (.seq (rg (g0 (ji 0) fun h11=>gq (.nsq (.block (.loop ?_))))))))
     exact zgc H x2 x1 x53 r102 (vH F x2 x1 k) ih F x51 x52 0 _ ⟨h1,h3,h6,h7,h8,h9,h10,h11⟩ h
   refine .exit (.esq (.elp (.ebk (.nsq (.seq (rg (gv (oI 7 [] x51) (xQ h7 yG) fun h58=>gv (oI 7 [] x51) (xQ h58 yG) fun h6=>xo (y0 (r:=7) (x:=6) (v:=_) h6 yG (fun s113 hz113=>?_)))))))))
   refine ez [(6,oI 6 [] x51)] (hz113 6 _ _ h6 (zo (r:=7) (p:=[]) rfl rfl)) ?_
   rintro s h6
   refine .nsq (.ret ?_)
   obtain rfl:=oi h
   exact rrA (zr h6) (YS (YL (o:=(x51:NL Int))) rfl (xI rfl))
def Zl (F:Nat) (x1:GR) (x2:LI) (x3:Int):Option (NL Int):=
 vH F x2 x1 F (.of []) [x3] 0
theorem ztP (H:ziZ D σ F) (x1:GR) (x2:LI) (x3:Int) (s:Nat→V) (hs:zu [(0,gV x1),(1,eL x2),(2,ji x3)] s) (h:Zl F x1 x2 x3=some r):Run D σ (zdN r) (.run zov []) s:=by
 unfold Zl at h
 obtain ⟨h0,h1,h2⟩:=hs
 refine .seq (zA (zZ ?_))
 refine ez [(0,_),(1,_),(2,_),(3,_)] ⟨za h0 rfl mIE,za h1 rfl me,za h2 rfl mi,ze rfl⟩ ?_
 rintro s ⟨h0,h1,h2,h3⟩
 refine xU (gV x1) (zx h0 rfl) h3 rfl (g0 nI fun h6=>gq (.nsq (.seq (zA (zZ ?_)))))
 refine ez [(1,_),(2,_),(3,_),(6,_),(12,_),(14,_)] ⟨za h1 rfl me,za h2 rfl mi,za rfl rfl (zi rfl mIE),za h6 rfl rfl,ze rfl,ze rfl⟩ ?_
 rintro s ⟨h1,h2,h3,h6,h12,h14⟩
 refine wA [] [] trivial rfl rfl h12 (gm h2 fun h13=>wA [(13,ji x3)] [Enc.enc (x3:Int)] h13 rfl rfl h14 (gm (rf (oI 12 [] (.of []))) fun h7=>gm (rf (oI 14 [] (.of [x3]))) fun h8=>xo (y0 (r:=12) (x:=7) (v:=_) h7 rfl (fun s3 hz3=>y0 (r:=14) (x:=8) (v:=_) (by exact (hz3 8 _ _ h8 (zo (r:=14) (p:=[]) rfl rfl))) rfl (fun s4 hz4=>?_)))))
 refine ez [(1,eL x2),(3,bG 3 x1),(6,nI),(7,oI 7 [] (.of [])),(8,oI 8 [] (.of [x3]))] ⟨hz4 1 _ _ (hz3 1 _ _ h1 me) me,hz4 3 _ _ (hz3 3 _ _ h3 (zi rfl mIE)) (zi rfl mIE),hz4 6 _ nI (hz3 6 _ nI h6 rfl) rfl,hz4 7 _ _ (hz3 7 _ _ h7 (zo (r:=12) (p:=[]) rfl rfl)) (zo (r:=7) (p:=[]) rfl rfl),hz4 8 _ _ (hz3 8 _ _ h8 (zo (r:=14) (p:=[]) rfl rfl)) (zo (r:=14) (p:=[]) rfl rfl)⟩ ?_
 rintro s ⟨h1,h3,h6,h7,h8⟩
 refine .nsq (.seq (.seq (rg (g0 (ji 0) fun h9=>gq (.nsq (.block (.loop ?_)))))))
 exact zgm H x2 x1 F (.of []) [x3] 0 _ ⟨h1,h3,h6,h7,h8,h9⟩ h
end
def zmS (F:Nat):Ent:=ent 1000000057 (fun (x:(GR×LI×Int×Unit))=>Zl F x.1 x.2.1 x.2.2.1) (fun (r:(NL Int))=>(zm .sh (r:NL Int))) 1 false []
abbrev zm4 (D:List V→Option V) (F:Nat):Prop:=∀ (x0:GR) (x1:LI) (x2:Int) r,Zl F x0 x1 x2=some r→D [Enc.enc x0,Enc.enc x1,Enc.enc x2]=some (zm .sh (r:NL Int))
theorem zpc {F:Nat}:zm4 (zmS F).den F:=fun x0 x1 x2 _ h=>zS (x0,x1,x2,()) h
theorem zuU (hF:zF Try.prog D σ) (H:ziZ D σ F):(zmS F).Ok Try.prog:=okZ (f:=57) Try.func57 fun ⟨x0,x1,x2,_⟩ y hy=>cR hF Try.func57 c57o (ztP H x0 x1 x2 _ ⟨rfl,rfl,rfl⟩ hy)
def zsH:AC:=(.cond (.t 16) .skip (.exit 0))
def zpT:AC:=(.cond (.t 31) .skip (.exit 2))
def zqv:AC:=(rr [jm 32 8,jv 33 (.bin .add (.t 32) (jn 1)),jm 8 33])
def zpU:AC:=(.seq (.block 3 (.reg [.clr [55]] [jv 34 (.fld (.t 5) 1 1),jv 35 (.load .p (.t 34)),jm 36 1,jm 37 6,jv 38 (.idx (.t 36) (.t 37) 1),jl 39 38,jm 40 7,jm 41 8,jv 42 (.idx (.t 40) (.t 41) 1),jl 43 42,jx 44 (.call (jf 45) [.t 39,.t 43]),jm 45 1,jm 46 6,jv 47 (.idx (.t 45) (.t 46) 1),jl 48 47,jm 49 7,jm 50 8,jv 51 (.idx (.t 49) (.t 50) 1),jl 52 51,jx 53 (.call (jf 59) [.t 48,.t 52]),jv 54 (.bld (.agg [i0,i0]) [(0,0,.t 44),(1,1,.t 53)]),jx 55 (.callO (jf 58) [.t 35,.t 54]),jv 56 (.fld (.t 5) 1 1),jz (.store .p (.t 56) (.t 55))] [.drp 11,.home 55 11])) zqv)
def zg0:AC:=(.seq (.seq (rr [jm 28 8,jm 29 7,jk 30 29,jv 31 (.bin .lss (.t 28) (.t 30))]) zpT) zpU)
def znW:AC:=(.block 2 (.loop zg0))
def zq4:AC:=(.seq (rr [jv 8 (.mov (jn 0))]) znW)
def zjk:AC:=(rr [jm 17 6,jv 18 (.bin .add (.t 17) (jn 1)),jm 6 18])
def zpk:AC:=(.seq (.block 1 (.seq (.reg [.clr [27]] [jv 19 (.load (.ag [.s,.p]) (.t 2)),jm 20 1,jm 21 6,jv 22 (.slice (.t 20) none (some (.t 21)) 1),jm 23 1,jm 24 6,jv 25 (.idx (.t 23) (.t 24) 1),jl 26 25,jx 27 (.callO (jf 57) [.t 19,.t 22,.t 26]),jm 7 27] [.home 27 7]) zq4)) zjk)
def Qp:AC:=(.seq (.seq (rr [jm 13 6,jm 14 1,jk 15 14,jv 16 (.bin .lss (.t 13) (.t 15))]) zsH) zpk)
def zaA:AC:=(.seq (rr [jv 57 (.load (.ag [.s,.p]) (.t 5)),jz (.store (.ag [.s,.p]) (.t 4) (.t 57))]) .ret)
def zmK:AC:=(.block 0 (.loop Qp))
def znL:AC:=(.seq (.seq (rr [jv 6 (.mov (jn 0))]) zmK) zaA)
def zlZ:AC:=(.seq (.reg [.clr [11,5]] [jv 9 (.fld (.t 2) 0 0),jl 10 9,jx 11 (.lit (.agg [i0,i0]) 0 []),jv 12 (.bld (.agg [i0,.sl .nl (.ag [.s,.s]) 0 []]) [(0,0,.t 10),(1,1,.t 11)]),jx 5 (.alloc (.agg [i0,.sl .nl (.ag [.s,.s]) 0 []])),jz (.store (.ag [.s,.p]) (.t 5) (.t 12))] []) znL)
def A27:AC:=(.seq (.reg [.clr [2,4]] [jx 2 (.box (.t 0)),jx 4 (.alloc (.agg [i0,.sl .nl (.ag [.s,.s]) 0 []]))] []) zlZ)
def ztY:List An:=[⟨0,[.clr [2,4]],[],[],[]⟩,⟨1,[.clr [11,5]],[],[],[]⟩,⟨5,[.clr [27]],[],[1008],[.home 27 7]⟩,⟨9,[.clr [55]],[],[1021],[.drp 11,.home 55 11]⟩]
theorem c27:cq Try.prog Try.f27 ztY=some A27:=by kernel_rfl
structure H27 (D:Den) (σ:Sig) (F:Nat):Prop where
 c57o:zm4 (D 1000000057) F
 g57o:σ 1000000057=some (1,false)
 c45:C45 (D 45) F
 g45:σ 45=some (0,false)
 c59:C59 (D 59) F
 g59:σ 59=some (0,false)
 c58o:zjm (D 1000000058) F
 g58o:σ 1000000058=some (1,false)
abbrev R27 (r:GR):(Nat→V)→Prop:=RR Try.prog [.cell 4 26] 0 false (Enc.enc (r:GR))
section
variable {r:GR}
def w6 (F:Nat) (x2:LI) (x1:GR) (x30:Int) (r59:(NL Int)) (c1:(NL (Int×Int))→Int→Option GR):Nat→(NL (Int×Int))→Int→Option GR
 | 0,_,_=>none
 | k + 1,x67,x68=>
   bif decide (x68 < (r59.list.length:Int)) then
    (idx x2 x30).bind fun v76=>
    (idx r59.list x68).bind fun v77=>
    (ZJ F v76 v77).bind fun r78=>
    (idx x2 x30).bind fun v79=>
    (idx r59.list x68).bind fun v80=>
    (YB F v79 v80).bind fun r81=>
    (uR F x67.list (r78,r81)).bind fun r82=>
    (w6 F x2 x1 x30 r59 c1 k) r82 (w64 (x68 + 1))
   else
    c1 x67 (w64 (x30 + 1))
theorem zin (H:H27 D σ F) (x2:LI) (x1:GR) (x30:Int) (r59:(NL Int)) (c1:(NL (Int×Int))→Int→Option GR) (Hc1:∀ (x29:(NL (Int×Int))) (x30:Int) (s:Nat→V),zu [(1,eL x2),(2,bG 2 x1),(4,bZ 4),(5,.ref (.bx 5) 0 [] (.agg [ji x1.1,zm (.at 11 []) (x29:NL (Int×Int))])),(6,ji x30)] s→c1 x29 x30=some r→Run D σ (R27 r) (.run Qp [.lp Qp,.bk 0,.sq zaA]) s):∀ (k:Nat) (x67:(NL (Int×Int))) (x68:Int) (s:Nat→V),zu [(1,eL x2),(2,bG 2 x1),(4,bZ 4),(5,.ref (.bx 5) 0 [] (.agg [ji x1.1,zm (.at 11 []) (x67:NL (Int×Int))])),(6,ji x30),(7,oI 7 [] r59),(8,ji x68)] s→w6 F x2 x1 x30 r59 c1 k x67 x68=some r→Run D σ (R27 r) (.run zg0 [.lp zg0,.bk 2,.bk 1,.sq zjk,.lp Qp,.bk 0,.sq zaA]) s:=by
 intro k
 induction k with
 | zero=>intro x67 x68 s _ h;exact nm h
 | succ k ih=>
   intro x67 x68 s hs h
   rw [w6] at h
   obtain ⟨h1,h2,h4,h5,h6,h7,h8⟩:=hs
   refine .seq (.seq (rg (gm h8 fun h28=>gv (oI 7 [] r59) (xQ h7 yG) fun h29=>gv (ji (r59.list.length:Int)) (XZ (o:=r59) h29) fun h30=>g2 28 30 (jb (decide (x68 < (r59.list.length:Int)))) h28 h30 fun h31=>gq (.nsq (zp h31 h (fun h=>?_) (fun h=>?_))))))
   · refine .skip (.nsq (.seq (.block (zA (zZ ?_)))))
     refine ez [(1,_),(2,_),(4,_),(5,_),(6,_),(7,_),(8,_),(55,_)] ⟨za h1 rfl me,za h2 rfl (zi rfl mIE),za h4 rfl (zi rfl (mIx rfl)),za h5 rfl (zi rfl (zH (zf mi (zf (zo (r:=11) (p:=[]) rfl rfl) zn)))),za h6 rfl mi,za h7 rfl (zo (r:=7) (p:=[]) rfl rfl),za h8 rfl mi,ze rfl⟩ ?_
     rintro s ⟨h1,h2,h4,h5,h6,h7,h8,h55⟩
     refine g1 5 (.ref (.bx 5) 0 [1] (zm (.at 11 []) (x67:NL (Int×Int)))) h5 fun h34=>gv (zm (.at 11 []) (x67:NL (Int×Int))) (ut h34 Wx) fun h35=>gm h1 fun h36=>gm h6 fun h37=>?_
     obtain ⟨v76,Ev76,h⟩:=zc h
     refine gv (.ref .sh 0 [] (ji v76)) (yV (t:=.sh) (lo:=0) (xs:=x2) h36 h37 Ev76 rfl rfl) fun h38=>g1 38 (ji v76) h38 fun h39=>gv (oI 7 [] r59) (xQ h7 yG) fun h40=>gm h8 fun h41=>?_
     obtain ⟨v77,Ev77,h⟩:=zc h
     refine gv (.ref (.at 7 []) x68.toNat [] (ji v77)) (vZ (o:=r59) h40 h41 Ev77 rfl) fun h42=>g1 42 (ji v77) h42 fun h43=>?_
     obtain ⟨r78,Er78,h⟩:=zc h
     refine gcF [Enc.enc (v76:Int),Enc.enc (v77:Int)] (zh h39 rfl rfl (zh h43 rfl rfl zI)) (H.c45 _ _ _ Er78) H.g45 (gm h1 fun h45=>gm h6 fun h46=>?_)
     obtain ⟨v79,Ev79,h⟩:=zc h
     refine gv (.ref .sh 0 [] (ji v79)) (yV (t:=.sh) (lo:=0) (xs:=x2) h45 h46 Ev79 rfl rfl) fun h47=>g1 47 (ji v79) h47 fun h48=>gv (oI 7 [] r59) (xQ h7 yG) fun h49=>gm h8 fun h50=>?_
     obtain ⟨v80,Ev80,h⟩:=zc h
     refine gv (.ref (.at 7 []) x68.toNat [] (ji v80)) (vZ (o:=r59) h49 h50 Ev80 rfl) fun h51=>g1 51 (ji v80) h51 fun h52=>?_
     obtain ⟨r81,Er81,h⟩:=zc h
     refine gcF [Enc.enc (v79:Int),Enc.enc (v80:Int)] (zh h48 rfl rfl (zh h52 rfl rfl zI)) (H.c59 _ _ _ Er81) H.g59 (g2 44 53 (.agg [ji r78,ji r81]) (rf (ji r78)) (rf (ji r81)) fun h54=>?_)
     obtain ⟨r82,Er82,h⟩:=zc h
     refine ZR (m:=1) (al:=false) (r:=zm .sh (r82:NL (Int×Int))) (v:=zm (.at 55 []) (r82:NL (Int×Int))) (kk:=1000000058) [eP x67.list,Enc.enc ((r78,r81):(Int×Int))] (zh h35 wY (vK (o:=x67)) (zh h54 rfl (Enc.erase_enc ((r78,r81):(Int×Int))) zI)) (H.c58o _ _ _ Er82) H.g58o rfl vi vW wY h55 (g1 5 (.ref (.bx 5) 0 [1] (zm (.at 11 []) (x67:NL (Int×Int)))) h5 fun h56=>z5 (zm (.at 55 []) (r82:NL (Int×Int))) (zx h56 rfl) (zx rfl wY) ⟨by decide,by decide,Jd,Xw,Xw,YT rfl rfl⟩ (xo (W1 (x:=11) (fun s34 hx_34 hd_34=>?_))))
     refine y0 (r:=55) (x:=11) (v:=_) (by exact hx_34) rfl (fun s35 hz35=>?_)
     refine ez [(1,eL x2),(2,bG 2 x1),(4,bZ 4),(5,.ref (.bx 5) 0 [] (.agg [ji x1.1,zm (.at 11 []) (r82:NL (Int×Int))])),(6,ji x30),(7,oI 7 [] r59),(8,ji x68)] ⟨hz35 1 _ _ (show s34 1=(eL x2) from (hd_34 1 (by decide)).trans (zd h1 uE)) me,hz35 2 _ _ (show s34 2=(bG 2 x1) from (hd_34 2 (by decide)).trans (zd h2 (zy rfl rfl uIE))) (zi rfl mIE),hz35 4 _ _ (show s34 4=(bZ 4) from (hd_34 4 (by decide)).trans (zd h4 (zy rfl rfl (yx (zq rfl (zq rfl rfl)))))) (zi rfl (mIx rfl)),hz35 5 _ (.ref (.bx 5) 0 [] (.agg [ji x1.1,zm (.at 11 []) (r82:NL (Int×Int))])) (show s34 5=(.ref (.bx 5) 0 [] (.agg [ji x1.1,zm (.at 55 []) (r82:NL (Int×Int))])) from (hd_34 5 (by decide)).trans (zd h5 (X0 (zq rfl (zq (wS rfl rfl) rfl))))) (zi rfl (zH (zf mi (zf (zo (r:=55) (p:=[]) rfl rfl) zn)))),hz35 6 _ _ (show s34 6=(ji x30) from (hd_34 6 (by decide)).trans (zd h6 rfl)) mi,hz35 7 _ _ (show s34 7=(oI 7 [] r59) from (hd_34 7 (by decide)).trans (zd h7 (wS rfl rfl))) (zo (r:=7) (p:=[]) rfl rfl),hz35 8 _ _ (show s34 8=(ji x68) from (hd_34 8 (by decide)).trans (zd h8 rfl)) mi⟩ ?_
     rintro s ⟨h1,h2,h4,h5,h6,h7,h8⟩
     refine .nbk (.nsq (rg (gm h8 fun h32=>g1 32 (ji (w64 (x68 + 1))) h32 fun h33=>gm h33 fun h8=>gq (.nlp ?_))))
     exact ih r82 (w64 (x68 + 1)) _ ⟨h1,h2,h4,h5,h6,h7,h8⟩ h
   refine .exit (.esq (.elp (.ebk (.nbk (.nsq (rg (gm h6 fun h17=>g1 17 (ji (w64 (x30 + 1))) h17 fun h18=>gm h18 fun h6=>gq (.nlp ?_))))))))
   exact Hc1 x67 (w64 (x30 + 1)) _ ⟨h1,h2,h4,h5,h6⟩ h
def wB (F:Nat) (x2:LI) (x1:GR) :Nat→(NL (Int×Int))→Int→Option GR
 | 0,_,_=>none
 | k + 1,x29,x30=>
   bif decide (x30 < (x2.length:Int)) then
    (sub x2 0 x30).bind fun sub57=>
    (idx x2 x30).bind fun v58=>
    (Zl F x1 sub57 v58).bind fun r59=>
    w6 F x2 x1 x30 r59 (wB F x2 x1 k) F x29 0
   else
    some (x1.1,x29.list)
theorem zhR (H:H27 D σ F) (x2:LI) (x1:GR) :∀ (k:Nat) (x29:(NL (Int×Int))) (x30:Int) (s:Nat→V),zu [(1,eL x2),(2,bG 2 x1),(4,bZ 4),(5,.ref (.bx 5) 0 [] (.agg [ji x1.1,zm (.at 11 []) (x29:NL (Int×Int))])),(6,ji x30)] s→wB F x2 x1 k x29 x30=some r→Run D σ (R27 r) (.run Qp [.lp Qp,.bk 0,.sq zaA]) s:=by
 intro k
 induction k with
 | zero=>intro x29 x30 s _ h;exact nm h
 | succ k ih=>
   intro x29 x30 s hs h
   rw [wB] at h
   obtain ⟨h1,h2,h4,h5,h6⟩:=hs
   refine .seq (.seq (rg (gm h6 fun h13=>gm h1 fun h14=>gl x2 h14 fun h15=>g2 13 15 (jb (decide (x30 < (x2.length:Int)))) h13 h15 fun h16=>gq (.nsq (zp h16 h (fun h=>?_) (fun h=>?_))))))
   · refine .skip (.nsq (.seq (.block (.seq (zA (zZ ?_))))))
     refine ez [(1,_),(2,_),(4,_),(5,_),(6,_),(27,_)] ⟨za h1 rfl me,za h2 rfl (zi rfl mIE),za h4 rfl (zi rfl (mIx rfl)),za h5 rfl (zi rfl (zH (zf mi (zf (zo (r:=11) (p:=[]) rfl rfl) zn)))),za h6 rfl mi,ze rfl⟩ ?_
     rintro s ⟨h1,h2,h4,h5,h6,h27⟩
     refine g1 2 (gV x1) h2 fun h19=>gm h1 fun h20=>gm h6 fun h21=>?_
     obtain ⟨sub57,Esub57,h⟩:=zc h
     refine gv (eL sub57) (UZ (xs:=x2) h20 (ZD) (ZC h21) Esub57 rfl) fun h22=>gm h1 fun h23=>gm h6 fun h24=>?_
     obtain ⟨v58,Ev58,h⟩:=zc h
     refine gv (.ref .sh 0 [] (ji v58)) (yV (t:=.sh) (lo:=0) (xs:=x2) h23 h24 Ev58 rfl rfl) fun h25=>g1 25 (ji v58) h25 fun h26=>?_
     obtain ⟨r59,Er59,h⟩:=zc h
     refine ZR (m:=1) (al:=false) (r:=zm .sh (r59:NL Int)) (v:=oI 27 [] r59) (kk:=1000000057) [Enc.enc (x1:GR),eL sub57,Enc.enc (v58:Int)] (zh h19 rfl (Enc.erase_enc (x1:GR)) (zh h22 rfl (Enc.erase_enc (sub57:LI)) (zh h26 rfl rfl zI))) (H.c57o _ _ _ _ Er59) H.g57o rfl vi vW wY h27 (gv (oI 27 [] r59) (xQ rfl yG) fun h7=>xo (y0 (r:=27) (x:=7) (v:=_) h7 yG (fun s26 hz26=>?_)))
     refine ez [(1,eL x2),(2,bG 2 x1),(4,bZ 4),(5,.ref (.bx 5) 0 [] (.agg [ji x1.1,zm (.at 11 []) (x29:NL (Int×Int))])),(6,ji x30),(7,oI 7 [] r59)] ⟨hz26 1 _ _ h1 me,hz26 2 _ _ h2 (zi rfl mIE),hz26 4 _ _ h4 (zi rfl (mIx rfl)),hz26 5 _ _ h5 (zi rfl (zH (zf mi (zf (zo (r:=11) (p:=[]) rfl rfl) zn)))),hz26 6 _ _ h6 mi,hz26 7 _ _ h7 (zo (r:=27) (p:=[]) rfl rfl)⟩ ?_
     rintro s ⟨h1,h2,h4,h5,h6,h7⟩
     refine .nsq (.seq (rg (g0 (ji 0) fun h8=>gq (.nsq (.block (.loop ?_))))))
     exact zin H x2 x1 x30 r59 (wB F x2 x1 k) ih F x29 0 _ ⟨h1,h2,h4,h5,h6,h7,h8⟩ h
   refine .exit (.esq (.elp (.ebk (.nsq (.seq (rg (gv (.agg [ji x1.1,zm (.at 11 []) (x29:NL (Int×Int))]) (ut (c:=.agg [ji x1.1,zm (.at 11 []) (x29:NL (Int×Int))]) h5 (by simp [V.shape,V.shapes,yo,Xe,Sh.beq,Sh.beqs])) fun h57=>z5 (.agg [ji x1.1,zm (.at 11 []) (x29:NL (Int×Int))]) (zx h4 rfl) (zx h57 rfl) ⟨by decide,by decide,rfl,(by simp [V.shape,V.shapes,yo,Sh.beq,Sh.beqs]),(by simp [V.shape,V.shapes,yo,Sh.beq,Sh.beqs]),(by simp [V.toks,V.tokss,zX])⟩ (gz [(4,.ref (.bx 4) 0 [] (.agg [ji x1.1,zm (.at 11 []) (x29:NL (Int×Int))]))] (zd h4 rfl) ?_))))))))
   rintro s h4
   refine .nsq (.ret ?_)
   obtain rfl:=oi h
   exact rrA (xO h4 (by simp only [V.shape,V.shapes,yo];kernel_rfl)) (wP (JS (yp (wx (x:=(x1.1:Int))) (yp (vk (o:=x29)) wG))) (XG (yz rfl (yz (xI rfl) wI))))
def ub (F:Nat) (x1:GR) (x2:LI):Option GR:=
 wB F x2 x1 F (.of []) 0
theorem t27 (H:H27 D σ F) (x1:GR) (x2:LI) (s:Nat→V) (hs:zu [(0,gV x1),(1,eL x2)] s) (h:ub F x1 x2=some r):Run D σ (R27 r) (.run A27 []) s:=by
 unfold ub at h
 obtain ⟨h0,h1⟩:=hs
 refine .seq (zA (zZ ?_))
 refine ez [(0,_),(1,_),(2,_),(4,_)] ⟨za h0 rfl mIE,za h1 rfl me,ze rfl,ze rfl⟩ ?_
 rintro s ⟨h0,h1,h2,h4⟩
 refine xU (gV x1) (zx h0 rfl) h2 rfl (yR h4 (gq (.nsq (.seq (zA (zZ ?_))))))
 refine ez [(1,_),(2,_),(4,_),(5,_),(11,_)] ⟨za h1 rfl me,za rfl rfl (zi rfl mIE),za rfl rfl (zi rfl (mIx rfl)),ze rfl,ze rfl⟩ ?_
 rintro s ⟨h1,h2,h4,h5,h11⟩
 refine g1 2 (.ref (.bx 2) 0 [0] (ji x1.1)) h2 fun h9=>g1 9 (ji x1.1) h9 fun h10=>wA [] [] trivial rfl rfl h11 (g2 10 11 (.agg [ji x1.1,zm (.at 11 []) (.of ([]:TP))]) h10 (rf (zm (.at 11 []) (.of ([]:TP)))) fun h12=>yR h5 (z5 (.agg [ji x1.1,zm (.at 11 []) (.of ([]:TP))]) (zx rfl rfl) (zx h12 rfl) (xE (by first | rfl | simp [V.toks,V.tokss,Enc.toks_enc,zX])) (gz [(1,eL x2),(2,bG 2 x1),(4,bZ 4),(5,.ref (.bx 5) 0 [] (.agg [ji x1.1,zm (.at 11 []) (.of ([]:TP))]))] ⟨zd h1 uE,zd h2 (zy rfl rfl uIE),zd h4 (zy rfl rfl (yx (zq rfl (zq rfl rfl)))),zd rfl rfl⟩ ?_)))
 rintro s ⟨h1,h2,h4,h5⟩
 refine .nsq (.seq (.seq (rg (g0 (ji 0) fun h6=>gq (.nsq (.block (.loop ?_)))))))
 exact zhR H x2 x1 F (.of []) 0 _ ⟨h1,h2,h4,h5,h6⟩ h
end
def e27 (F:Nat):Ent:=ent 27 (fun (x:(GR×LI×Unit))=>ub F x.1 x.2.1) (fun (r:GR)=>(Enc.enc (r:GR))) 0 false []
abbrev C27 (D:List V→Option V) (F:Nat):Prop:=∀ (x0:GR) (x1:LI) r,ub F x0 x1=some r→D [Enc.enc x0,Enc.enc x1]=some (Enc.enc (r:GR))
theorem p27 {F:Nat}:C27 (e27 F).den F:=fun x0 x1 _ h=>zS (x0,x1,()) h
theorem o27 (hF:zF Try.prog D σ) (H:H27 D σ F):(e27 F).Ok Try.prog:=okZ (f:=27) Try.func27 fun ⟨x0,x1,_⟩ y hy=>cR hF Try.func27 c27 (t27 H x0 x1 _ ⟨rfl,rfl⟩ hy)
def zun:AC:=(.cond (.t 9) (.seq (rr [jv 10 (.bld (.agg [i0,.sl .nl (.ag [.s,.s]) 0 []]) []),jz (.store (.ag [.s,.p]) (.t 4) (.t 10)),jv 5 (.mov kf)]) .ret) .skip)
def zuD:AC:=(.seq (rr [jv 11 (.load (.ag [.s,.p]) (.t 2)),jm 12 1,jx 13 (.call (jf 27) [.t 11,.t 12]),jz (.store (.ag [.s,.p]) (.t 4) (.t 13)),jv 5 (.mov kt)]) .ret)
def zuv:AC:=(.seq (.seq (rr [jv 6 (.load (.ag [.s,.p]) (.t 2)),jm 7 1,jx 8 (.call (jf 26) [.t 6,.t 7]),jv 9 (.un .not (.t 8))]) zun) zuD)
def A7:AC:=(.seq (.reg [.clr [2,4]] [jx 2 (.box (.t 0)),jx 4 (.alloc (.agg [i0,.sl .nl (.ag [.s,.s]) 0 []])),jv 5 (.mov kf)] []) zuv)
def an7:List An:=[⟨0,[.clr [2,4]],[],[],[]⟩]
theorem c7:cq Try.prog Try.f7 an7=some A7:=by kernel_rfl
structure H7 (D:Den) (σ:Sig) (F:Nat):Prop where
 c26:C26 (D 26) F
 g26:σ 26=some (0,false)
 c27:C27 (D 27) F
 g27:σ 27=some (0,false)
abbrev R7 (r:(GR×Bool)):(Nat→V)→Prop:=RR Try.prog [.cell 4 26,.tmp 5] 0 true (.tup [Enc.enc (r.1:GR),Enc.enc (r.2:Bool)])
section
variable {r:(GR×Bool)}
def vx (F:Nat) (x1:GR) (x2:LI):Option (GR×Bool):=
 (vR F x1 x2).bind fun r3=>
 bif (!r3) then
  some ((0,[]),false)
 else
  (ub F x1 x2).bind fun r4=>
  some (r4,true)
theorem t7 (H:H7 D σ F) (x1:GR) (x2:LI) (s:Nat→V) (hs:zu [(0,gV x1),(1,eL x2)] s) (h:vx F x1 x2=some r):Run D σ (R7 r) (.run A7 []) s:=by
 unfold vx at h
 obtain ⟨h0,h1⟩:=hs
 refine .seq (zA (zZ ?_))
 refine ez [(0,_),(1,_),(2,_),(4,_)] ⟨za h0 rfl mIE,za h1 rfl me,ze rfl,ze rfl⟩ ?_
 rintro s ⟨h0,h1,h2,h4⟩
 refine xU (gV x1) (zx h0 rfl) h2 rfl (yR h4 (g0 (jb false) fun h5=>gq (.nsq (.seq (.seq (rg (g1 2 (gV x1) (rf (bG 2 x1)) fun h6=>gm h1 fun h7=>?_)))))))
 obtain ⟨r3,Er3,h⟩:=zc h
 refine gcF [Enc.enc (x1:GR),eL x2] (zh h6 rfl (Enc.erase_enc (x1:GR)) (zh h7 rfl (Enc.erase_enc (x2:LI)) zI)) (H.c26 _ _ _ Er3) H.g26 (g1 8 (jb (!r3)) (rf (jb r3)) fun h9=>gq (.nsq (zp h9 h (fun h=>?_) (fun h=>?_))))
 · refine .seq (rg (g0 g0V fun h10=>z5 g0V (zx rfl rfl) (zx h10 rfl) (xE (by first | rfl | simp [V.toks,V.tokss,Enc.toks_enc,zX])) (g0 (jb false) fun h5=>gz [(1,eL x2),(2,bG 2 x1),(4,bZ 4),(5,_)] ⟨zd h1 uE,zd rfl (zy rfl rfl uIE),zd rfl rfl,h5⟩ ?_)))
   rintro s ⟨h1,h2,h4,h5⟩
   refine .nsq (.ret ?_)
   obtain rfl:=oi h
   exact rrB (xO h4 (by kernel_rfl)) (zr h5) (YU (ZF (yp (JS (yp (wx (x:=(0:Int))) (yp (vk (o:=(.nil:NL (Int×Int))) (t:=.nl)) wG))) (yp (wx (x:=(false:Bool))) wG))))
 refine .skip (.nsq (.seq (rg (g1 2 (gV x1) (rf (bG 2 x1)) fun h11=>gm h1 fun h12=>?_))))
 obtain ⟨r4,Er4,h⟩:=zc h
 refine gcF [Enc.enc (x1:GR),eL x2] (zh h11 rfl (Enc.erase_enc (x1:GR)) (zh h12 rfl (Enc.erase_enc (x2:LI)) zI)) (H.c27 _ _ _ Er4) H.g27 (z5 (gV r4) (zx rfl rfl) (zx rfl rfl) (xE (by first | rfl | simp [V.toks,V.tokss,Enc.toks_enc,zX])) (g0 (jb true) fun h5=>gz [(4,bG 4 r4),(5,_)] ⟨zd rfl rfl,h5⟩ ?_))
 rintro s ⟨h4,h5⟩
 refine .nsq (.ret ?_)
 obtain rfl:=oi h
 exact rrB (xO h4 (by kernel_rfl)) (zr h5) (YU (ZF (yp (wx (x:=(r4:GR))) (yp (wx (x:=(true:Bool))) wG))))
end
def e7 (F:Nat):Ent:=ent 7 (fun (x:(GR×LI×Unit))=>vx F x.1 x.2.1) (fun (r:(GR×Bool))=>(.tup [Enc.enc (r.1:GR),Enc.enc (r.2:Bool)])) 0 true []
abbrev C7 (D:List V→Option V) (F:Nat):Prop:=∀ (x0:GR) (x1:LI) r,vx F x0 x1=some r→D [Enc.enc x0,Enc.enc x1]=some (.tup [Enc.enc (r.1:GR),Enc.enc (r.2:Bool)])
theorem p7 {F:Nat}:C7 (e7 F).den F:=fun x0 x1 _ h=>zS (x0,x1,()) h
theorem o7 (hF:zF Try.prog D σ) (H:H7 D σ F):(e7 F).Ok Try.prog:=okZ (f:=7) Try.func7 fun ⟨x0,x1,_⟩ y hy=>cR hF Try.func7 c7 (t7 H x0 x1 _ ⟨rfl,rfl⟩ hy)
def zsK:AC:=(.reg [.clr [33,34]] [jm 25 7,jv 26 (.fld (.t 5) 0 0),jv 27 (.load .p (.t 26)),jm 28 9,jv 29 (.idx (.t 27) (.t 28) 1),jl 30 29,jm 31 6,jv 32 (.bin .and (.t 30) (.t 31)),jx 33 (.lit i0 1 [(0,0,.t 32)]),jx 34 (.app .s (.t 25) (.t 33)),jm 7 34] [.home 34 7])
def zqS:AC:=(.seq (rr [jm 21 6,jm 22 9,jv 23 (.bin .shl (jn 1) (.t 22)),jv 24 (.bin .andNot (.t 21) (.t 23)),jm 6 24]) zsK)
def zpZ:AC:=(rr [jv 35 (.bin .add (.t 17) (jn 1)),jm 17 35])
def zpq:AC:=(.seq (.block 1 (.seq (rr [jv 19 (.idx (.t 15) (.t 17) 1),jl 20 19,jm 9 20]) zqS)) zpZ)
def zpn:AC:=(.seq (.cond (.t 18) .skip (.exit 0)) zpq)
def zhC:AC:=(.seq (rr [jv 18 (.bin .lss (.t 17) (.t 16))]) zpn)
def zlw:AC:=(.seq (.reg [] [jm 36 7,jm 4 36] [.home 7 4]) .ret)
def zmJ:AC:=(.block 0 (.loop zhC))
def zmc:AC:=(.seq (.seq (rr [jm 15 1,jk 16 15,jv 17 (.mov (jn 0))]) zmJ) zlw)
def zmq:AC:=(.seq (rr [jv 7 (.mov (.k (.sl .nl .s 0 [])))]) zmc)
def zof:AC:=(.seq (rr [jv 13 (.load (.ag [.p]) (.t 2)),jx 14 (.call (jf 32) [.t 13]),jm 6 14]) zmq)
def zpg:AC:=(.seq (.reg [.clr [5]] [jv 10 (.load (.ag [.p]) (.t 2)),jm 11 1,jx 12 (.call (jf 24) [.t 10,.t 11]),jx 5 (.alloc (.agg [.sl .nl .s 0 []])),jz (.store (.ag [.p]) (.t 5) (.t 12))] []) zof)
def A28:AC:=(.seq (.reg [.clr [2]] [jx 2 (.box (.t 0)),jv 4 (.mov (.k (.sl .nl .s 0 [])))] []) zpg)
def zt1:List An:=[⟨0,[.clr [2]],[],[],[]⟩,⟨1,[.clr [5]],[],[],[]⟩,⟨8,[.clr [33,34]],[],[],[.home 34 7]⟩,⟨10,[],[],[],[.home 7 4]⟩]
theorem c28:cq Try.prog Try.f28 zt1=some A28:=by kernel_rfl
structure H28 (D:Den) (σ:Sig) (F:Nat):Prop where
 c24:C24 (D 24) F
 g24:σ 24=some (0,false)
 c32:C32 (D 32) F
 g32:σ 32=some (0,false)
abbrev R28 (r:LI):(Nat→V)→Prop:=RR Try.prog [.tmp 4] 0 false (eL r)
section
variable {r:LI}
def yX (F:Nat) (r3:(S1 LI)) (x2:LI) :Nat→Int→(NL Int)→Int→Option LI
 | 0,_,_,_=>none
 | k + 1,x9,x10,x11=>
   bif decide (x11 < (x2.length:Int)) then
    (idx x2 x11).bind fun v16=>
    (WZ .i64 1 v16).bind fun q17=>
    (idx r3.a v16).bind fun v18=>
    (vL x10.list [yu .i64 v18 (zY .i64 x9 q17)]).bind fun ap19=>
    (yX F r3 x2 k) (zY .i64 x9 q17) (.of ap19) (w64 (x11 + 1))
   else
    some x10.list
theorem zgG (H:H28 D σ F) (r3:(S1 LI)) (x2:LI) :∀ (k:Nat) (x9:Int) (x10:(NL Int)) (x11:Int) (s:Nat→V),zu [(4,nI),(5,.ref (.bx 5) 0 [] (.agg [eL r3.a])),(6,ji x9),(7,oI 7 [] x10),(15,eL x2),(16,ji (x2.length:Int)),(17,ji x11)] s→yX F r3 x2 k x9 x10 x11=some r→Run D σ (R28 r) (.run zhC [.lp zhC,.bk 0,.sq zlw]) s:=by
 intro k
 induction k with
 | zero=>intro x9 x10 x11 s _ h;exact nm h
 | succ k ih=>
   intro x9 x10 x11 s hs h
   rw [yX] at h
   obtain ⟨h4,h5,h6,h7,h15,h16,h17⟩:=hs
   refine .seq (rg (g2 17 16 (jb (decide (x11 < (x2.length:Int)))) h17 h16 fun h18=>gq (.nsq (.seq (zp h18 h (fun h=>?_) (fun h=>?_))))))
   · refine .skip (.nsq (.seq (.block (.seq (rg ?_)))))
     obtain ⟨v16,Ev16,h⟩:=zc h
     refine gv (.ref .sh 0 [] (ji v16)) (yV (t:=.sh) (lo:=0) (xs:=x2) h15 h17 Ev16 rfl rfl) fun h19=>g1 19 (ji v16) h19 fun h20=>gm h20 fun h9=>gq (.nsq (.seq (rg (gm h6 fun h21=>gm h9 fun h22=>?_))))
     obtain ⟨q17,Eq17,h⟩:=zc h
     refine gv (ji q17) (YF rfl h22 Eq17) fun h23=>g2 21 23 (ji (zY .i64 x9 q17)) h21 h23 fun h24=>gm h24 fun h6=>gq (.nsq (zA (zZ ?_)))
     refine ez [(4,_),(5,_),(6,_),(7,_),(9,_),(15,_),(16,_),(17,_),(33,_),(34,_)] ⟨za h4 rfl rfl,za h5 rfl (zi rfl (zH (zf me zn))),za h6 rfl mi,za h7 rfl (zo (r:=7) (p:=[]) rfl rfl),za h9 rfl mi,za h15 rfl me,za h16 rfl mi,za h17 rfl mi,ze rfl,ze rfl⟩ ?_
     rintro s ⟨h4,h5,h6,h7,h9,h15,h16,h17,h33,h34⟩
     refine gv (oI 7 [] x10) (xQ h7 yG) fun h25=>g1 5 (.ref (.bx 5) 0 [0] (eL r3.a)) h5 fun h26=>g1 26 (eL r3.a) h26 fun h27=>gm h9 fun h28=>?_
     obtain ⟨v18,Ev18,h⟩:=zc h
     refine gv (.ref .sh 0 [] (ji v18)) (yV (t:=.sh) (lo:=0) (xs:=r3.a) h27 h28 Ev18 rfl rfl) fun h29=>g1 29 (ji v18) h29 fun h30=>gm h6 fun h31=>g2 30 31 (ji (yu .i64 v18 (zY .i64 x9 q17))) h30 h31 fun h32=>wA [(32,ji (yu .i64 v18 (zY .i64 x9 q17)))] [Enc.enc (yu .i64 v18 (zY .i64 x9 q17):Int)] h32 rfl rfl h33 ?_
     obtain ⟨ap19,Eap19,h⟩:=zc h
     refine XQ (q:=7) (p:=[]) (o:=(x10:NL Int)) (ys:=([yu .i64 v18 (zY .i64 x9 q17)]:LI)) (t2:=.at 33 []) (lo2:=0) h25 rfl rfl h34 (ZT (o:=(x10:NL Int)) Eap19 (by split <;> simp)) (fun s10 ha10=>gm (rf (oI 34 [] (.of ap19))) fun h7=>xo (y0 (r:=34) (x:=7) (v:=_) h7 rfl (fun s11 hz11=>?_)))
     refine ez [(4,nI),(5,.ref (.bx 5) 0 [] (.agg [eL r3.a])),(6,ji (zY .i64 x9 q17)),(7,oI 7 [] (.of ap19)),(15,eL x2),(16,ji (x2.length:Int)),(17,ji x11)] ⟨hz11 4 _ nI (show s10 4=nI from zR ha10 h4 rfl) rfl,hz11 5 _ _ (show s10 5=(.ref (.bx 5) 0 [] (.agg [eL r3.a])) from zR ha10 h5 (zi rfl (zH (zf me zn)))) (zi rfl (zH (zf me zn))),hz11 6 _ _ (show s10 6=(ji (zY .i64 x9 q17)) from zR ha10 h6 mi) mi,hz11 7 _ _ h7 (zo (r:=34) (p:=[]) rfl rfl),hz11 15 _ _ (show s10 15=(eL x2) from zR ha10 h15 me) me,hz11 16 _ _ (show s10 16=(ji (x2.length:Int)) from zR ha10 h16 mi) mi,hz11 17 _ _ (show s10 17=(ji x11) from zR ha10 h17 mi) mi⟩ ?_
     rintro s ⟨h4,h5,h6,h7,h15,h16,h17⟩
     refine .nbk (.nsq (rg (g1 17 (ji (w64 (x11 + 1))) h17 fun h35=>gm h35 fun h17=>gq (.nlp ?_))))
     exact ih (zY .i64 x9 q17) (.of ap19) (w64 (x11 + 1)) _ ⟨h4,h5,h6,h7,h15,h16,h17⟩ h
   refine .exit (.esq (.elp (.ebk (.nsq (.seq (rg (gv (oI 7 [] x10) (xQ h7 yG) fun h36=>gv (oI 7 [] x10) (xQ h36 yG) fun h4=>xo (y0 (r:=7) (x:=4) (v:=_) h4 yG (fun s12 hz12=>?_)))))))))
   refine ez [(4,oI 4 [] x10)] (hz12 4 _ _ h4 (zo (r:=7) (p:=[]) rfl rfl)) ?_
   rintro s h4
   refine .nsq (.ret ?_)
   obtain rfl:=oi h
   exact rrA (zr h4) (wP (vk (o:=x10)) (xI rfl))
def xG (F:Nat) (x1:(S1 LI)) (x2:LI):Option LI:=
 (wj F x1 x2).bind fun r3=>
 (xr F x1).bind fun r4=>
 yX F r3 x2 F r4 .nil 0
theorem t28 (H:H28 D σ F) (x1:(S1 LI)) (x2:LI) (s:Nat→V) (hs:zu [(0,.agg [eL x1.a]),(1,eL x2)] s) (h:xG F x1 x2=some r):Run D σ (R28 r) (.run A28 []) s:=by
 unfold xG at h
 obtain ⟨h0,h1⟩:=hs
 refine .seq (zA (zZ ?_))
 refine ez [(0,_),(1,_),(2,_)] ⟨za h0 rfl (zH (zf me zn)),za h1 rfl me,ze rfl⟩ ?_
 rintro s ⟨h0,h1,h2⟩
 refine xU (.agg [eL x1.a]) (zx h0 rfl) h2 rfl (g0 nI fun h4=>gq (.nsq (.seq (zA (zZ ?_)))))
 refine ez [(1,_),(2,_),(4,_),(5,_)] ⟨za h1 rfl me,za rfl rfl (zi rfl (zH (zf me zn))),za h4 rfl rfl,ze rfl⟩ ?_
 rintro s ⟨h1,h2,h4,h5⟩
 refine g1 2 (.agg [eL x1.a]) h2 fun h10=>gm h1 fun h11=>?_
 obtain ⟨r3,Er3,h⟩:=zc h
 refine gcF [Enc.enc (x1:(S1 LI)),eL x2] (zh h10 rfl (Enc.erase_enc (x1:(S1 LI))) (zh h11 rfl (Enc.erase_enc (x2:LI)) zI)) (H.c24 _ _ _ Er3) H.g24 (yR h5 (z5 (.agg [eL r3.a]) (zx rfl rfl) (zx rfl rfl) (xE (by first | rfl | simp [V.toks,V.tokss,Enc.toks_enc,zX])) (gz [(1,eL x2),(2,.ref (.bx 2) 0 [] (.agg [eL x1.a])),(4,nI),(5,.ref (.bx 5) 0 [] (.agg [eL r3.a]))] ⟨zd h1 uE,zd h2 (zy rfl rfl (yx (zq uE rfl))),zd h4 rfl,zd rfl rfl⟩ ?_)))
 rintro s ⟨h1,h2,h4,h5⟩
 refine .nsq (.seq (rg (g1 2 (.agg [eL x1.a]) h2 fun h13=>?_)))
 obtain ⟨r4,Er4,h⟩:=zc h
 refine gcF [Enc.enc (x1:(S1 LI))] (zh h13 rfl (Enc.erase_enc (x1:(S1 LI))) zI) (H.c32 _ _ Er4) H.g32 (gm (rf (ji r4)) fun h6=>gq (.nsq (.seq (rg (g0 nI fun h7=>gq (.nsq (.seq (.seq (rg (gm h1 fun h15=>gl x2 h15 fun h16=>g0 (ji 0) fun h17=>gq (.nsq (.block (.loop ?_)))))))))))))
 exact zgG H r3 x2 F r4 .nil 0 _ ⟨h4,h5,h6,h7,h15,h16,h17⟩ h
end
def e28 (F:Nat):Ent:=ent 28 (fun (x:((S1 LI)×LI×Unit))=>xG F x.1 x.2.1) (fun (r:LI)=>(eL r)) 0 false []
abbrev C28 (D:List V→Option V) (F:Nat):Prop:=∀ (x0:(S1 LI)) (x1:LI) r,xG F x0 x1=some r→D [Enc.enc x0,Enc.enc x1]=some (eL r)
theorem p28 {F:Nat}:C28 (e28 F).den F:=fun x0 x1 _ h=>zS (x0,x1,()) h
theorem o28 (hF:zF Try.prog D σ) (H:H28 D σ F):(e28 F).Ok Try.prog:=okZ (f:=28) Try.func28 fun ⟨x0,x1,_⟩ y hy=>cR hF Try.func28 c28 (t28 H x0 x1 _ ⟨rfl,rfl⟩ hy)
def zsl:AC:=(.seq (rr [jm 32 0,jv 33 (.conv .i64 (.t 32)),jv 34 (.bin .and (.t 33) (jn 127)),jm 2 34]) .ret)
def zsT:AC:=(.seq (rr [jm 28 0,jm 29 0,jv 30 (.bin .shr (.t 29) (.k (.int .u64 (.ofNat 32)))),jv 31 (.bin .add (.t 28) (.t 30)),jm 0 31]) zsl)
def zsu:AC:=(.seq (rr [jm 24 0,jm 25 0,jv 26 (.bin .shr (.t 25) (.k (.int .u64 (.ofNat 16)))),jv 27 (.bin .add (.t 24) (.t 26)),jm 0 27]) zsT)
def zpd:AC:=(.seq (rr [jm 20 0,jm 21 0,jv 22 (.bin .shr (.t 21) (.k (.int .u64 (.ofNat 8)))),jv 23 (.bin .add (.t 20) (.t 22)),jm 0 23]) zsu)
def zsM:AC:=(.seq (rr [jm 15 0,jv 16 (.bin .shr (.t 15) (.k (.int .u64 (.ofNat 4)))),jm 17 0,jv 18 (.bin .add (.t 16) (.t 17)),jv 19 (.bin .and (.t 18) (.k (.int .u64 (.ofNat 1085102592571150095)))),jm 0 19]) zpd)
def zos:AC:=(.seq (rr [jm 9 0,jv 10 (.bin .shr (.t 9) (.k (.int .u64 (.ofNat 2)))),jv 11 (.bin .and (.t 10) (.k (.int .u64 (.ofNat 3689348814741910323)))),jm 12 0,jv 13 (.bin .and (.t 12) (.k (.int .u64 (.ofNat 3689348814741910323)))),jv 14 (.bin .add (.t 11) (.t 13)),jm 0 14]) zsM)
def zoE:AC:=(.seq (rr [jm 3 0,jv 4 (.bin .shr (.t 3) (.k (.int .u64 (.ofNat 1)))),jv 5 (.bin .and (.t 4) (.k (.int .u64 (.ofNat 6148914691236517205)))),jm 6 0,jv 7 (.bin .and (.t 6) (.k (.int .u64 (.ofNat 6148914691236517205)))),jv 8 (.bin .add (.t 5) (.t 7)),jm 0 8]) zos)
def A61:AC:=(.seq (rr [jv 2 (.mov (jn 0))]) zoE)
def zuo:List An:=[]
theorem c61:cq Try.prog Try.f61 zuo=some A61:=by kernel_rfl
structure H61 (D:Den) (σ:Sig) (F:Nat):Prop where
 mk ::
abbrev R61 (r:Int):(Nat→V)→Prop:=RR Try.prog [.tmp 2] 0 false (Enc.enc (r:Int))
section
variable {r:Int}
def ux (F:Nat) (x1:(Kd .u64)):Option Int:=
 (Uq .u64 x1.v 1).bind fun q2=>
 (Uq .u64 (IntKind.u64.wrap ((yu .u64 q2 6148914691236517205) + (yu .u64 x1.v 6148914691236517205))) 2).bind fun q3=>
 (Uq .u64 (IntKind.u64.wrap ((yu .u64 q3 3689348814741910323) + (yu .u64 (IntKind.u64.wrap ((yu .u64 q2 6148914691236517205) + (yu .u64 x1.v 6148914691236517205))) 3689348814741910323))) 4).bind fun q4=>
 (Uq .u64 (yu .u64 (IntKind.u64.wrap (q4 + (IntKind.u64.wrap ((yu .u64 q3 3689348814741910323) + (yu .u64 (IntKind.u64.wrap ((yu .u64 q2 6148914691236517205) + (yu .u64 x1.v 6148914691236517205))) 3689348814741910323))))) 1085102592571150095) 8).bind fun q5=>
 (Uq .u64 (IntKind.u64.wrap ((yu .u64 (IntKind.u64.wrap (q4 + (IntKind.u64.wrap ((yu .u64 q3 3689348814741910323) + (yu .u64 (IntKind.u64.wrap ((yu .u64 q2 6148914691236517205) + (yu .u64 x1.v 6148914691236517205))) 3689348814741910323))))) 1085102592571150095) + q5)) 16).bind fun q6=>
 (Uq .u64 (IntKind.u64.wrap ((IntKind.u64.wrap ((yu .u64 (IntKind.u64.wrap (q4 + (IntKind.u64.wrap ((yu .u64 q3 3689348814741910323) + (yu .u64 (IntKind.u64.wrap ((yu .u64 q2 6148914691236517205) + (yu .u64 x1.v 6148914691236517205))) 3689348814741910323))))) 1085102592571150095) + q5)) + q6)) 32).bind fun q7=>
 some (yu .i64 (w64 (IntKind.u64.wrap ((IntKind.u64.wrap ((IntKind.u64.wrap ((yu .u64 (IntKind.u64.wrap (q4 + (IntKind.u64.wrap ((yu .u64 q3 3689348814741910323) + (yu .u64 (IntKind.u64.wrap ((yu .u64 q2 6148914691236517205) + (yu .u64 x1.v 6148914691236517205))) 3689348814741910323))))) 1085102592571150095) + q5)) + q6)) + q7))) 127)
theorem t61 (H:H61 D σ F) (x1:(Kd .u64)) (s:Nat→V) (hs:zu [(0,.int .u64 x1.v)] s) (h:ux F x1=some r):Run D σ (R61 r) (.run A61 []) s:=by
 unfold ux at h
 have h0:=hs
 refine .seq (rg (g0 (ji 0) fun h2=>gq (.nsq (.seq (rg (gm h0 fun h3=>?_))))))
 obtain ⟨q2,Eq2,h⟩:=zc h
 refine gv (.int .u64 q2) (Xc h3 rfl Eq2) fun h4=>g1 4 (.int .u64 (yu .u64 q2 6148914691236517205)) h4 fun h5=>gm h0 fun h6=>g1 6 (.int .u64 (yu .u64 x1.v 6148914691236517205)) h6 fun h7=>g2 5 7 (.int .u64 (IntKind.u64.wrap ((yu .u64 q2 6148914691236517205) + (yu .u64 x1.v 6148914691236517205)))) h5 h7 fun h8=>gm h8 fun h0=>gq (.nsq (.seq (rg (gm h0 fun h9=>?_))))
 obtain ⟨q3,Eq3,h⟩:=zc h
 refine gv (.int .u64 q3) (Xc h9 rfl Eq3) fun h10=>g1 10 (.int .u64 (yu .u64 q3 3689348814741910323)) h10 fun h11=>gm h0 fun h12=>g1 12 (.int .u64 (yu .u64 (IntKind.u64.wrap ((yu .u64 q2 6148914691236517205) + (yu .u64 x1.v 6148914691236517205))) 3689348814741910323)) h12 fun h13=>g2 11 13 (.int .u64 (IntKind.u64.wrap ((yu .u64 q3 3689348814741910323) + (yu .u64 (IntKind.u64.wrap ((yu .u64 q2 6148914691236517205) + (yu .u64 x1.v 6148914691236517205))) 3689348814741910323)))) h11 h13 fun h14=>gm h14 fun h0=>gq (.nsq (.seq (rg (gm h0 fun h15=>?_))))
 obtain ⟨q4,Eq4,h⟩:=zc h
 refine gv (.int .u64 q4) (Xc h15 rfl Eq4) fun h16=>gm h0 fun h17=>g2 16 17 (.int .u64 (IntKind.u64.wrap (q4 + (IntKind.u64.wrap ((yu .u64 q3 3689348814741910323) + (yu .u64 (IntKind.u64.wrap ((yu .u64 q2 6148914691236517205) + (yu .u64 x1.v 6148914691236517205))) 3689348814741910323)))))) h16 h17 fun h18=>g1 18 (.int .u64 (yu .u64 (IntKind.u64.wrap (q4 + (IntKind.u64.wrap ((yu .u64 q3 3689348814741910323) + (yu .u64 (IntKind.u64.wrap ((yu .u64 q2 6148914691236517205) + (yu .u64 x1.v 6148914691236517205))) 3689348814741910323))))) 1085102592571150095)) h18 fun h19=>gm h19 fun h0=>gq (.nsq (.seq (rg (gm h0 fun h20=>gm h0 fun h21=>?_))))
 obtain ⟨q5,Eq5,h⟩:=zc h
 refine gv (.int .u64 q5) (Xc h21 rfl Eq5) fun h22=>g2 20 22 (.int .u64 (IntKind.u64.wrap ((yu .u64 (IntKind.u64.wrap (q4 + (IntKind.u64.wrap ((yu .u64 q3 3689348814741910323) + (yu .u64 (IntKind.u64.wrap ((yu .u64 q2 6148914691236517205) + (yu .u64 x1.v 6148914691236517205))) 3689348814741910323))))) 1085102592571150095) + q5))) h20 h22 fun h23=>gm h23 fun h0=>gq (.nsq (.seq (rg (gm h0 fun h24=>gm h0 fun h25=>?_))))
 obtain ⟨q6,Eq6,h⟩:=zc h
 refine gv (.int .u64 q6) (Xc h25 rfl Eq6) fun h26=>g2 24 26 (.int .u64 (IntKind.u64.wrap ((IntKind.u64.wrap ((yu .u64 (IntKind.u64.wrap (q4 + (IntKind.u64.wrap ((yu .u64 q3 3689348814741910323) + (yu .u64 (IntKind.u64.wrap ((yu .u64 q2 6148914691236517205) + (yu .u64 x1.v 6148914691236517205))) 3689348814741910323))))) 1085102592571150095) + q5)) + q6))) h24 h26 fun h27=>gm h27 fun h0=>gz [(0,_),(2,_)] ⟨h0,h2⟩ ?_
 rintro s ⟨h0,h2⟩
 refine .nsq (.seq (rg (gm h0 fun h28=>gm h0 fun h29=>?_)))
 obtain ⟨q7,Eq7,h⟩:=zc h
 refine gv (.int .u64 q7) (Xc h29 rfl Eq7) fun h30=>g2 28 30 (.int .u64 (IntKind.u64.wrap ((IntKind.u64.wrap ((IntKind.u64.wrap ((yu .u64 (IntKind.u64.wrap (q4 + (IntKind.u64.wrap ((yu .u64 q3 3689348814741910323) + (yu .u64 (IntKind.u64.wrap ((yu .u64 q2 6148914691236517205) + (yu .u64 x1.v 6148914691236517205))) 3689348814741910323))))) 1085102592571150095) + q5)) + q6)) + q7))) h28 h30 fun h31=>?_
 refine gm h31 fun h0=>gq (.nsq (.seq (rg (gm h0 fun h32=>g1 32 (ji (w64 (IntKind.u64.wrap ((IntKind.u64.wrap ((IntKind.u64.wrap ((yu .u64 (IntKind.u64.wrap (q4 + (IntKind.u64.wrap ((yu .u64 q3 3689348814741910323) + (yu .u64 (IntKind.u64.wrap ((yu .u64 q2 6148914691236517205) + (yu .u64 x1.v 6148914691236517205))) 3689348814741910323))))) 1085102592571150095) + q5)) + q6)) + q7)))) h32 fun h33=>?_))))
 refine g1 33 (ji (yu .i64 (w64 (IntKind.u64.wrap ((IntKind.u64.wrap ((IntKind.u64.wrap ((yu .u64 (IntKind.u64.wrap (q4 + (IntKind.u64.wrap ((yu .u64 q3 3689348814741910323) + (yu .u64 (IntKind.u64.wrap ((yu .u64 q2 6148914691236517205) + (yu .u64 x1.v 6148914691236517205))) 3689348814741910323))))) 1085102592571150095) + q5)) + q6)) + q7))) 127)) h33 fun h34=>gm h34 fun h2=>gq (.nsq (.ret ?_))
 obtain rfl:=oi h
 exact rrA (zr h2) rfl
end
def e61 (F:Nat):Ent:=ent 61 (fun (x:((Kd .u64)×Unit))=>ux F x.1) (fun (r:Int)=>(Enc.enc (r:Int))) 0 false []
abbrev C61 (D:List V→Option V) (F:Nat):Prop:=∀ (x0:(Kd .u64)) r,ux F x0=some r→D [Enc.enc x0]=some (Enc.enc (r:Int))
theorem p61 {F:Nat}:C61 (e61 F).den F:=fun x0 _ h=>zS (x0,()) h
theorem o61 {D:Den} {σ:Sig} {F:Nat} (hF:zF Try.prog D σ) (H:H61 D σ F):(e61 F).Ok Try.prog:=by
 refine zb6 (f:=61) (show unk 61=61 from rfl) (fun args r h=>?_) ⟨Try.f61,Try.func61,rfl,rfl⟩
 obtain ⟨⟨x0,_⟩,y,rfl,hy,rfl⟩:=Kw h
 exact Uy hF (by kernel_rfl) Try.func61 rfl c61 (show 1≤Try.f61.ntmps by decide) (t61 H x0 _ rfl hy)
def zoj:AC:=(.seq (rr [jm 6 0,jx 7 (.call (jf 61) [.t 6]),jm 2 7]) .ret)
def zsf:AC:=(.seq (.cond kf (.seq (rr [jm 3 0,jv 4 (.conv .u32 (.t 3)),jx 5 (.call (jf 60) [.t 4]),jm 2 5]) .ret) .skip) zoj)
def A29:AC:=(.seq (rr [jv 2 (.mov (jn 0))]) zsf)
def zt6:List An:=[]
theorem c29:cq Try.prog Try.f29 zt6=some A29:=by kernel_rfl
structure H29 (D:Den) (σ:Sig) (F:Nat):Prop where
 c61:C61 (D 61) F
 g61:σ 61=some (0,false)
abbrev R29 (r:Int):(Nat→V)→Prop:=RR Try.prog [.tmp 2] 0 false (Enc.enc (r:Int))
section
variable {r:Int}
def w9 (F:Nat) (x1:(Kd .u64)):Option Int:=
 (ux F (Kd.mk x1.v:Kd .u64)).bind fun r2=>
 some r2
theorem t29 (H:H29 D σ F) (x1:(Kd .u64)) (s:Nat→V) (hs:zu [(0,.int .u64 x1.v)] s) (h:w9 F x1=some r):Run D σ (R29 r) (.run A29 []) s:=by
 unfold w9 at h
 have h0:=hs
 refine .seq (rg (g0 (ji 0) fun h2=>gq (.nsq (.seq (zgo rfl (.skip (.nsq (.seq (rg (gm h0 fun h6=>?_))))))))))
 obtain ⟨r2,Er2,h⟩:=zc h
 refine gcF [Enc.enc ((Kd.mk x1.v:Kd .u64):(Kd .u64))] (zh h6 rfl rfl zI) (H.c61 _ _ Er2) H.g61 (gm (rf (ji r2)) fun h2=>gq (.nsq (.ret ?_)))
 obtain rfl:=oi h
 exact rrA (zr h2) rfl
end
def e29 (F:Nat):Ent:=ent 29 (fun (x:((Kd .u64)×Unit))=>w9 F x.1) (fun (r:Int)=>(Enc.enc (r:Int))) 0 false []
abbrev C29 (D:List V→Option V) (F:Nat):Prop:=∀ (x0:(Kd .u64)) r,w9 F x0=some r→D [Enc.enc x0]=some (Enc.enc (r:Int))
theorem p29 {F:Nat}:C29 (e29 F).den F:=fun x0 _ h=>zS (x0,()) h
theorem o29 {D:Den} {σ:Sig} {F:Nat} (hF:zF Try.prog D σ) (H:H29 D σ F):(e29 F).Ok Try.prog:=by
 refine zb6 (f:=29) (show unk 29=29 from rfl) (fun args r h=>?_) ⟨Try.f29,Try.func29,rfl,rfl⟩
 obtain ⟨⟨x0,_⟩,y,rfl,hy,rfl⟩:=Kw h
 exact Uy hF (by kernel_rfl) Try.func29 rfl c29 (show 1≤Try.f29.ntmps by decide) (t29 H x0 _ rfl hy)
def ztg:AC:=(rr [jm 27 6,jm 28 8,jv 29 (.conv .u64 (.t 28)),jx 30 (.call (jf 29) [.t 29]),jv 31 (.mx [.t 27,.t 30]),jm 6 31])
def ztW:AC:=(rr [jv 32 (.bin .add (.t 23) (jn 1)),jm 23 32])
def zt0:AC:=(.seq (.block 1 (.seq (rr [jv 25 (.idx (.t 21) (.t 23) 1),jl 26 25,jm 8 26]) ztg)) ztW)
def zue:AC:=(.seq (.cond (.t 24) .skip (.exit 0)) zt0)
def znf:AC:=(.seq (rr [jv 24 (.bin .lss (.t 23) (.t 22))]) zue)
def zqF:AC:=(.seq (rr [jm 33 6,jm 4 33,jv 5 (.mov kt)]) .ret)
def znX:AC:=(.cond (.t 17) (.seq (rr [jv 4 (.mov (jn 0)),jv 5 (.mov kf)]) .ret) .skip)
def zrC:AC:=(.block 0 (.loop znf))
def zuY:AC:=(.seq (.seq (rr [jv 18 (.load (.ag [.s,.p]) (.t 2)),jx 19 (.call (jf 23) [.t 18]),jm 20 1,jx 21 (.call (jf 28) [.t 19,.t 20]),jk 22 21,jv 23 (.mov (jn 0))]) zrC) zqF)
def zr3:AC:=(.seq (rr [jv 6 (.mov (jn (-1)))]) zuY)
def zod:AC:=(.seq (.seq (rr [jv 9 (.load (.ag [.s,.p]) (.t 2)),jx 10 (.call (jf 21) [.t 9]),jv 11 (.un .not (.t 10)),jm 12 11,jg 13 12 false (.load (.ag [.s,.p]) (.t 2)),jg 14 12 false (.mov (.t 1)),.mk (some 15) (some (12,false)) false (.call (jf 22) [.t 13,.t 14]),jg 16 12 false (.un .not (.t 15)),jv 17 (.pick (.t 12) kt (.t 16))]) znX) zr3)
def A8:AC:=(.seq (.reg [.clr [2]] [jx 2 (.box (.t 0)),jv 4 (.mov (jn 0)),jv 5 (.mov kf)] []) zod)
def an8:List An:=[⟨0,[.clr [2]],[],[],[]⟩]
theorem c8:cq Try.prog Try.f8 an8=some A8:=by kernel_rfl
structure H8 (D:Den) (σ:Sig) (F:Nat):Prop where
 c21:C21 (D 21) F
 g21:σ 21=some (0,false)
 c22:C22 (D 22) F
 g22:σ 22=some (0,false)
 c23:C23 (D 23) F
 g23:σ 23=some (0,false)
 c28:C28 (D 28) F
 g28:σ 28=some (0,false)
 c29:C29 (D 29) F
 g29:σ 29=some (0,false)
abbrev R8 (r:(Int×Bool)):(Nat→V)→Prop:=RR Try.prog [.tmp 4,.tmp 5] 0 false (.tup [Enc.enc (r.1:Int),Enc.enc (r.2:Bool)])
section
variable {r:(Int×Bool)}
def xH (F:Nat) (r7:LI) :Nat→Int→Int→Option (Int×Bool)
 | 0,_,_=>none
 | k + 1,x10,x11=>
   bif decide (x11 < (r7.length:Int)) then
    (idx r7 x11).bind fun v14=>
    (w9 F (Kd.mk (IntKind.u64.wrap v14):Kd .u64)).bind fun r15=>
    (xH F r7 k) (if r15 > x10 then r15 else x10) (w64 (x11 + 1))
   else
    some (x10,true)
theorem zkG (H:H8 D σ F) (r7:LI) :∀ (k:Nat) (x10:Int) (x11:Int) (s:Nat→V),zu [(4,ji 0),(5,jb false),(6,ji x10),(21,eL r7),(22,ji (r7.length:Int)),(23,ji x11)] s→xH F r7 k x10 x11=some r→Run D σ (R8 r) (.run znf [.lp znf,.bk 0,.sq zqF]) s:=by
 intro k
 induction k with
 | zero=>intro x10 x11 s _ h;exact nm h
 | succ k ih=>
   intro x10 x11 s hs h
   rw [xH] at h
   obtain ⟨h4,h5,h6,h21,h22,h23⟩:=hs
   refine .seq (rg (g2 23 22 (jb (decide (x11 < (r7.length:Int)))) h23 h22 fun h24=>gq (.nsq (.seq (zp h24 h (fun h=>?_) (fun h=>?_))))))
   · refine .skip (.nsq (.seq (.block (.seq (rg ?_)))))
     obtain ⟨v14,Ev14,h⟩:=zc h
     refine gv (.ref .sh 0 [] (ji v14)) (yV (t:=.sh) (lo:=0) (xs:=r7) h21 h23 Ev14 rfl rfl) fun h25=>g1 25 (ji v14) h25 fun h26=>gm h26 fun h8=>gq (.nsq (rg (gm h6 fun h27=>gm h8 fun h28=>g1 28 (.int .u64 (IntKind.u64.wrap v14)) h28 fun h29=>?_)))
     obtain ⟨r15,Er15,h⟩:=zc h
     refine gcF [Enc.enc ((Kd.mk (IntKind.u64.wrap v14):Kd .u64):(Kd .u64))] (zh h29 rfl rfl zI) (H.c29 _ _ Er15) H.g29 (g2 27 30 (ji (if r15 > x10 then r15 else x10)) h27 (rf (ji r15)) fun h31=>gm h31 fun h6=>gq (.nbk (.nsq (rg (g1 23 (ji (w64 (x11 + 1))) h23 fun h32=>gm h32 fun h23=>gq (.nlp ?_))))))
     exact ih (if r15 > x10 then r15 else x10) (w64 (x11 + 1)) _ ⟨h4,h5,h6,h21,h22,h23⟩ h
   refine .exit (.esq (.elp (.ebk (.nsq (.seq (rg (gm h6 fun h33=>gm h33 fun h4=>g0 (jb true) fun h5=>gq (.nsq (.ret ?_)))))))))
   obtain rfl:=oi h
   exact rrB (zr h4) (zr h5) rfl
def wM (F:Nat) (x2:LI) (x1:GR)  (x5:Bool):Option (Int×Bool):=
 bif x5 then
  some (0,false)
 else
  (ZO F x1).bind fun r6=>
  (xG F r6 x2).bind fun r7=>
  xH F r7 F (-1) 0
theorem ze2 (H:H8 D σ F) (x2:LI) (x1:GR)  (x5:Bool) (s:Nat→V) (hs:zu [(1,eL x2),(2,bG 2 x1),(4,ji 0),(5,jb false),(17,jb x5)] s) (h:wM F x2 x1  x5=some r):Run D σ (R8 r) (.nrm [.sq znX,.sq zr3]) s:=by
 unfold wM at h
 obtain ⟨h1,h2,h4,h5,h17⟩:=hs
 refine .nsq (zp h17 h (fun h=>?_) (fun h=>?_))
 · refine .seq (rg (g0 (ji 0) fun h4=>g0 (jb false) fun h5=>gq (.nsq (.ret ?_))))
   obtain rfl:=oi h
   exact rrB (zr h4) (zr h5) rfl
 refine .skip (.nsq (.seq (rg (g0 (ji (-1)) fun h6=>gq (.nsq (.seq (.seq (rg (g1 2 (gV x1) h2 fun h18=>?_)))))))))
 obtain ⟨r6,Er6,h⟩:=zc h
 refine gcF [Enc.enc (x1:GR)] (zh h18 rfl (Enc.erase_enc (x1:GR)) zI) (H.c23 _ _ Er6) H.g23 (gm h1 fun h20=>?_)
 obtain ⟨r7,Er7,h⟩:=zc h
 refine gcF [Enc.enc (r6:(S1 LI)),eL x2] (zh (v:=.agg [eL r6.a]) rfl rfl (Enc.erase_enc (r6:(S1 LI))) (zh h20 rfl (Enc.erase_enc (x2:LI)) zI)) (H.c28 _ _ _ Er7) H.g28 (gl r7 rfl fun h22=>g0 (ji 0) fun h23=>gq (.nsq (.block (.loop ?_))))
 exact zkG H r7 F (-1) 0 _ ⟨h4,h5,h6,rfl,h22,h23⟩ h
def y6 (F:Nat) (x1:GR) (x2:LI):Option (Int×Bool):=
 (vy F x1).bind fun r16=>
 bif (!r16) then
  wM F x2 x1 true
 else
  (Zw F x1 x2).bind fun r17=>
  wM F x2 x1 (!r17)
theorem t8 (H:H8 D σ F) (x1:GR) (x2:LI) (s:Nat→V) (hs:zu [(0,gV x1),(1,eL x2)] s) (h:y6 F x1 x2=some r):Run D σ (R8 r) (.run A8 []) s:=by
 unfold y6 at h
 obtain ⟨h0,h1⟩:=hs
 refine .seq (zA (zZ ?_))
 refine ez [(0,_),(1,_),(2,_)] ⟨za h0 rfl mIE,za h1 rfl me,ze rfl⟩ ?_
 rintro s ⟨h0,h1,h2⟩
 refine xU (gV x1) (zx h0 rfl) h2 rfl (g0 (ji 0) fun h4=>g0 (jb false) fun h5=>gq (.nsq (.seq (.seq (rg (g1 2 (gV x1) (rf (bG 2 x1)) fun h9=>?_))))))
 obtain ⟨r16,Er16,h⟩:=zc h
 refine gcF [Enc.enc (x1:GR)] (zh h9 rfl (Enc.erase_enc (x1:GR)) zI) (H.c21 _ _ Er16) H.g21 (g1 10 (jb (!r16)) (rf (jb r16)) fun h11=>gm h11 fun h12=>yj h (fun hg4 h=>?_) (fun hg4 h=>?_))
 · iterate 4 refine yY (ct h12 hg4) ?_
   refine g2 12 16 (jb true) (ct h12 hg4) (rf (.tup [])) fun h17=>gq ?_
   exact ze2 H x2 x1 true _ ⟨h1,rfl,h4,h5,h17⟩ h
 refine zt (ct h12 hg4) (g1 2 (gV x1) (rf (bG 2 x1)) fun h13=>zt (ct h12 hg4) (gm h1 fun h14=>?_))
 obtain ⟨r17,Er17,h⟩:=zc h
 refine zt (ct h12 hg4) (gcF [Enc.enc (x1:GR),eL x2] (zh h13 rfl (Enc.erase_enc (x1:GR)) (zh h14 rfl (Enc.erase_enc (x2:LI)) zI)) (H.c22 _ _ _ Er17) H.g22 (zt (ct h12 hg4) (g1 15 (jb (!r17)) (rf (jb r17)) fun h16=>g2 12 16 (jb (!r17)) (ct h12 hg4) h16 fun h17=>gq ?_)))
 exact ze2 H x2 x1 (!r17) _ ⟨h1,rfl,h4,h5,h17⟩ h
end
def e8 (F:Nat):Ent:=ent 8 (fun (x:(GR×LI×Unit))=>y6 F x.1 x.2.1) (fun (r:(Int×Bool))=>(.tup [Enc.enc (r.1:Int),Enc.enc (r.2:Bool)])) 0 false []
abbrev C8 (D:List V→Option V) (F:Nat):Prop:=∀ (x0:GR) (x1:LI) r,y6 F x0 x1=some r→D [Enc.enc x0,Enc.enc x1]=some (.tup [Enc.enc (r.1:Int),Enc.enc (r.2:Bool)])
theorem p8 {F:Nat}:C8 (e8 F).den F:=fun x0 x1 _ h=>zS (x0,x1,()) h
theorem o8 (hF:zF Try.prog D σ) (H:H8 D σ F):(e8 F).Ok Try.prog:=okZ (f:=8) Try.func8 fun ⟨x0,x1,_⟩ y hy=>cR hF Try.func8 c8 (t8 H x0 x1 _ ⟨rfl,rfl⟩ hy)
def zqP:AC:=(.cond (.t 10) .skip (.exit 0))
def zst:AC:=(rr [jm 11 6,jv 12 (.bin .add (.t 11) (jn 1)),jm 6 12])
def zqg:AC:=(.seq (.block 1 (.reg [.clr [22]] [jm 13 5,jv 14 (.load (.ag [.s,.p]) (.t 2)),jm 15 1,jm 16 6,jv 17 (.slice (.t 15) none (some (.t 16)) 1),jm 18 1,jm 19 6,jv 20 (.idx (.t 18) (.t 19) 1),jl 21 20,jx 22 (.callO (jf 57) [.t 14,.t 17,.t 21]),jk 23 22,jx 24 (.call (jf 59) [.t 13,.t 23]),jm 5 24] [])) zst)
def zht:AC:=(.seq (.seq (rr [jm 7 6,jm 8 1,jk 9 8,jv 10 (.bin .lss (.t 7) (.t 9))]) zqP) zqg)
def zlq:AC:=(.seq (rr [jm 25 5,jm 4 25]) .ret)
def zon:AC:=(.block 0 (.loop zht))
def zri:AC:=(.seq (.seq (rr [jv 6 (.mov (jn 0))]) zon) zlq)
def zoa:AC:=(.seq (rr [jv 5 (.mov (jn (-1)))]) zri)
def A30:AC:=(.seq (.reg [.clr [2]] [jx 2 (.box (.t 0)),jv 4 (.mov (jn 0))] []) zoa)
def zuf:List An:=[⟨0,[.clr [2]],[],[],[]⟩,⟨5,[.clr [22]],[],[1009],[]⟩]
theorem c30:cq Try.prog Try.f30 zuf=some A30:=by kernel_rfl
structure H30 (D:Den) (σ:Sig) (F:Nat):Prop where
 c57o:zm4 (D 1000000057) F
 g57o:σ 1000000057=some (1,false)
 c59:C59 (D 59) F
 g59:σ 59=some (0,false)
abbrev R30 (r:Int):(Nat→V)→Prop:=RR Try.prog [.tmp 4] 0 false (Enc.enc (r:Int))
section
variable {r:Int}
def uL (F:Nat) (x2:LI) (x1:GR) :Nat→Int→Int→Option Int
 | 0,_,_=>none
 | k + 1,x7,x8=>
   bif decide (x8 < (x2.length:Int)) then
    (sub x2 0 x8).bind fun sub13=>
    (idx x2 x8).bind fun v14=>
    (Zl F x1 sub13 v14).bind fun r15=>
    (YB F x7 (r15.list.length:Int)).bind fun r16=>
    (uL F x2 x1 k) r16 (w64 (x8 + 1))
   else
    some x7
theorem zi7 (H:H30 D σ F) (x2:LI) (x1:GR) :∀ (k:Nat) (x7:Int) (x8:Int) (s:Nat→V),zu [(1,eL x2),(2,bG 2 x1),(4,ji 0),(5,ji x7),(6,ji x8)] s→uL F x2 x1 k x7 x8=some r→Run D σ (R30 r) (.run zht [.lp zht,.bk 0,.sq zlq]) s:=by
 intro k
 induction k with
 | zero=>intro x7 x8 s _ h;exact nm h
 | succ k ih=>
   intro x7 x8 s hs h
   rw [uL] at h
   obtain ⟨h1,h2,h4,h5,h6⟩:=hs
   refine .seq (.seq (rg (gm h6 fun h7=>gm h1 fun h8=>gl x2 h8 fun h9=>g2 7 9 (jb (decide (x8 < (x2.length:Int)))) h7 h9 fun h10=>gq (.nsq (zp h10 h (fun h=>?_) (fun h=>?_))))))
   · refine .skip (.nsq (.seq (.block (zA (zZ ?_)))))
     refine ez [(1,_),(2,_),(4,_),(5,_),(6,_),(22,_)] ⟨za h1 rfl me,za h2 rfl (zi rfl mIE),za h4 rfl mi,za h5 rfl mi,za h6 rfl mi,ze rfl⟩ ?_
     rintro s ⟨h1,h2,h4,h5,h6,h22⟩
     refine gm h5 fun h13=>g1 2 (gV x1) h2 fun h14=>gm h1 fun h15=>gm h6 fun h16=>?_
     obtain ⟨sub13,Esub13,h⟩:=zc h
     refine gv (eL sub13) (UZ (xs:=x2) h15 (ZD) (ZC h16) Esub13 rfl) fun h17=>gm h1 fun h18=>gm h6 fun h19=>?_
     obtain ⟨v14,Ev14,h⟩:=zc h
     refine gv (.ref .sh 0 [] (ji v14)) (yV (t:=.sh) (lo:=0) (xs:=x2) h18 h19 Ev14 rfl rfl) fun h20=>g1 20 (ji v14) h20 fun h21=>?_
     obtain ⟨r15,Er15,h⟩:=zc h
     refine ZR (m:=1) (al:=false) (r:=zm .sh (r15:NL Int)) (v:=oI 22 [] r15) (kk:=1000000057) [Enc.enc (x1:GR),eL sub13,Enc.enc (v14:Int)] (zh h14 rfl (Enc.erase_enc (x1:GR)) (zh h17 rfl (Enc.erase_enc (sub13:LI)) (zh h21 rfl rfl zI))) (H.c57o _ _ _ _ Er15) H.g57o rfl vi vW wY h22 (gv (ji (r15.list.length:Int)) (XZ (o:=r15) rfl) fun h23=>?_)
     obtain ⟨r16,Er16,h⟩:=zc h
     refine gcF [Enc.enc (x7:Int),Enc.enc ((r15.list.length:Int):Int)] (zh h13 rfl rfl (zh h23 rfl rfl zI)) (H.c59 _ _ _ Er16) H.g59 (gm (rf (ji r16)) fun h5=>gq (.nbk (.nsq (rg (gm h6 fun h11=>g1 11 (ji (w64 (x8 + 1))) h11 fun h12=>gm h12 fun h6=>gq (.nlp ?_))))))
     exact ih r16 (w64 (x8 + 1)) _ ⟨h1,h2,h4,h5,h6⟩ h
   refine .exit (.esq (.elp (.ebk (.nsq (.seq (rg (gm h5 fun h25=>gm h25 fun h4=>gq (.nsq (.ret ?_)))))))))
   obtain rfl:=oi h
   exact rrA (zr h4) rfl
def Xf (F:Nat) (x1:GR) (x2:LI):Option Int:=
 uL F x2 x1 F (-1) 0
theorem t30 (H:H30 D σ F) (x1:GR) (x2:LI) (s:Nat→V) (hs:zu [(0,gV x1),(1,eL x2)] s) (h:Xf F x1 x2=some r):Run D σ (R30 r) (.run A30 []) s:=by
 unfold Xf at h
 obtain ⟨h0,h1⟩:=hs
 refine .seq (zA (zZ ?_))
 refine ez [(0,_),(1,_),(2,_)] ⟨za h0 rfl mIE,za h1 rfl me,ze rfl⟩ ?_
 rintro s ⟨h0,h1,h2⟩
 refine xU (gV x1) (zx h0 rfl) h2 rfl (g0 (ji 0) fun h4=>gq (.nsq (.seq (rg (g0 (ji (-1)) fun h5=>gq (.nsq (.seq (.seq (rg (g0 (ji 0) fun h6=>gq (.nsq (.block (.loop ?_)))))))))))))
 exact zi7 H x2 x1 F (-1) 0 _ ⟨h1,rfl,h4,h5,h6⟩ h
end
def e30 (F:Nat):Ent:=ent 30 (fun (x:(GR×LI×Unit))=>Xf F x.1 x.2.1) (fun (r:Int)=>(Enc.enc (r:Int))) 0 false []
abbrev C30 (D:List V→Option V) (F:Nat):Prop:=∀ (x0:GR) (x1:LI) r,Xf F x0 x1=some r→D [Enc.enc x0,Enc.enc x1]=some (Enc.enc (r:Int))
theorem p30 {F:Nat}:C30 (e30 F).den F:=fun x0 x1 _ h=>zS (x0,x1,()) h
theorem o30 (hF:zF Try.prog D σ) (H:H30 D σ F):(e30 F).Ok Try.prog:=okZ (f:=30) Try.func30 fun ⟨x0,x1,_⟩ y hy=>cR hF Try.func30 c30 (t30 H x0 x1 _ ⟨rfl,rfl⟩ hy)
def ztj:AC:=(.cond (.t 9) (.seq (rr [jv 4 (.mov (jn 0)),jv 5 (.mov kf)]) .ret) .skip)
def ztv:AC:=(.seq (rr [jv 10 (.load (.ag [.s,.p]) (.t 2)),jm 11 1,jx 12 (.call (jf 30) [.t 10,.t 11]),jm 4 12,jv 5 (.mov kt)]) .ret)
def ztr:AC:=(.seq (.seq (rr [jv 6 (.load (.ag [.s,.p]) (.t 2)),jm 7 1,jx 8 (.call (jf 26) [.t 6,.t 7]),jv 9 (.un .not (.t 8))]) ztj) ztv)
def A9:AC:=(.seq (.reg [.clr [2]] [jx 2 (.box (.t 0)),jv 4 (.mov (jn 0)),jv 5 (.mov kf)] []) ztr)
def an9:List An:=[⟨0,[.clr [2]],[],[],[]⟩]
theorem c9:cq Try.prog Try.f9 an9=some A9:=by kernel_rfl
structure H9 (D:Den) (σ:Sig) (F:Nat):Prop where
 c26:C26 (D 26) F
 g26:σ 26=some (0,false)
 c30:C30 (D 30) F
 g30:σ 30=some (0,false)
abbrev R9 (r:(Int×Bool)):(Nat→V)→Prop:=RR Try.prog [.tmp 4,.tmp 5] 0 false (.tup [Enc.enc (r.1:Int),Enc.enc (r.2:Bool)])
section
variable {r:(Int×Bool)}
def wo (F:Nat) (x1:GR) (x2:LI):Option (Int×Bool):=
 (vR F x1 x2).bind fun r3=>
 bif (!r3) then
  some (0,false)
 else
  (Xf F x1 x2).bind fun r4=>
  some (r4,true)
theorem t9 (H:H9 D σ F) (x1:GR) (x2:LI) (s:Nat→V) (hs:zu [(0,gV x1),(1,eL x2)] s) (h:wo F x1 x2=some r):Run D σ (R9 r) (.run A9 []) s:=by
 unfold wo at h
 obtain ⟨h0,h1⟩:=hs
 refine .seq (zA (zZ ?_))
 refine ez [(0,_),(1,_),(2,_)] ⟨za h0 rfl mIE,za h1 rfl me,ze rfl⟩ ?_
 rintro s ⟨h0,h1,h2⟩
 refine xU (gV x1) (zx h0 rfl) h2 rfl (g0 (ji 0) fun h4=>g0 (jb false) fun h5=>gq (.nsq (.seq (.seq (rg (g1 2 (gV x1) (rf (bG 2 x1)) fun h6=>gm h1 fun h7=>?_))))))
 obtain ⟨r3,Er3,h⟩:=zc h
 refine gcF [Enc.enc (x1:GR),eL x2] (zh h6 rfl (Enc.erase_enc (x1:GR)) (zh h7 rfl (Enc.erase_enc (x2:LI)) zI)) (H.c26 _ _ _ Er3) H.g26 (g1 8 (jb (!r3)) (rf (jb r3)) fun h9=>gq (.nsq (zp h9 h (fun h=>?_) (fun h=>?_))))
 · refine .seq (rg (g0 (ji 0) fun h4=>g0 (jb false) fun h5=>gq (.nsq (.ret ?_))))
   obtain rfl:=oi h
   exact rrB (zr h4) (zr h5) rfl
 refine .skip (.nsq (.seq (rg (g1 2 (gV x1) (rf (bG 2 x1)) fun h10=>gm h1 fun h11=>?_))))
 obtain ⟨r4,Er4,h⟩:=zc h
 refine gcF [Enc.enc (x1:GR),eL x2] (zh h10 rfl (Enc.erase_enc (x1:GR)) (zh h11 rfl (Enc.erase_enc (x2:LI)) zI)) (H.c30 _ _ _ Er4) H.g30 (gm (rf (ji r4)) fun h4=>g0 (jb true) fun h5=>gq (.nsq (.ret ?_)))
 obtain rfl:=oi h
 exact rrB (zr h4) (zr h5) rfl
end
def e9 (F:Nat):Ent:=ent 9 (fun (x:(GR×LI×Unit))=>wo F x.1 x.2.1) (fun (r:(Int×Bool))=>(.tup [Enc.enc (r.1:Int),Enc.enc (r.2:Bool)])) 0 false []
abbrev C9 (D:List V→Option V) (F:Nat):Prop:=∀ (x0:GR) (x1:LI) r,wo F x0 x1=some r→D [Enc.enc x0,Enc.enc x1]=some (.tup [Enc.enc (r.1:Int),Enc.enc (r.2:Bool)])
theorem p9 {F:Nat}:C9 (e9 F).den F:=fun x0 x1 _ h=>zS (x0,x1,()) h
theorem o9 (hF:zF Try.prog D σ) (H:H9 D σ F):(e9 F).Ok Try.prog:=okZ (f:=9) Try.func9 fun ⟨x0,x1,_⟩ y hy=>cR hF Try.func9 c9 (t9 H x0 x1 _ ⟨rfl,rfl⟩ hy)
def zla:AC:=(.seq (.reg [.clr [11,15,18,19]] [jx 11 (.lit (.int .u8 (.ofNat 0)) 0 []),jm 12 0,jm 13 1,jv 14 (.slice (.t 12) (some (.t 13)) none 1),jx 15 (.app .s (.t 11) (.t 14)),jm 16 1,jv 17 (.conv .u8 (.t 16)),jx 18 (.lit (.int .u8 (.ofNat 0)) 1 [(0,0,.t 17)]),jx 19 (.app .s (.t 15) (.t 18)),jm 4 19] [.home 19 4]) .ret)
def zpN:AC:=(.cond (.t 8) (rr [jm 9 0,jk 10 9,jm 1 10]) .skip)
def zs1:AC:=(.seq (.seq (rr [jm 5 1,jm 6 0,jk 7 6,jv 8 (.bin .gtr (.t 5) (.t 7))]) zpN) zla)
def A11:AC:=(.seq (rr [jv 4 (.mov (.k (.sl .nl .s 0 [])))]) zs1)
def zt7:List An:=[⟨3,[.clr [11,15,18,19]],[],[],[.home 19 4]⟩]
theorem c11:cq Try.prog Try.f11 zt7=some A11:=by kernel_rfl
structure H11 (D:Den) (σ:Sig) (F:Nat):Prop where
 mk ::
abbrev R11 (r:LB):(Nat→V)→Prop:=RR Try.prog [.tmp 4] 0 false (eB r)
section
variable {r:LB}
def X9 (F:Nat) (x1:LB)  (x3:Int):Option LB:=
 (sub x1 x3 (x1.length:Int)).bind fun sub4=>
 (vL [] sub4).bind fun ap5=>
 (vL ap5 [(Kd.mk (IntKind.u8.wrap x3):Kd .u8)]).bind fun ap6=>
 some ap6
theorem zb2 (H:H11 D σ F) (x1:LB)  (x3:Int) (s:Nat→V) (hs:zu [(0,eB x1),(1,ji x3),(4,.sl .nl (Enc.shp (Kd .u8)) 0 [])] s) (h:X9 F x1  x3=some r):Run D σ (R11 r) (.nrm [.sq zla]) s:=by
 unfold X9 at h
 obtain ⟨h0,h1,h4⟩:=hs
 refine .nsq (.seq (zA (zZ ?_)))
 refine ez [(0,_),(1,_),(4,_),(11,_),(15,_),(18,_),(19,_)] ⟨za h0 rfl me,za h1 rfl mi,za h4 rfl rfl,ze rfl,ze rfl,ze rfl,ze rfl⟩ ?_
 rintro s ⟨h0,h1,h4,h11,h15,h18,h19⟩
 refine wA [] [] trivial rfl rfl h11 (gm h0 fun h12=>gm h1 fun h13=>?_)
 obtain ⟨sub4,Esub4,h⟩:=zc h
 refine gv (eB sub4) (UZ (xs:=x1) h12 (ZC h13) (ZD) Esub4 rfl) fun h14=>?_
 obtain ⟨ap5,Eap5,h⟩:=zc h
 refine XQ (q:=11) (p:=[]) (o:=.of ([]:LB)) (ys:=(sub4:LB)) (t2:=.sh) (lo2:=0) rfl h14 rfl h15 (ZT (o:=.of ([]:LB)) Eap5 trivial) (fun s2 ha2=>gm (show s2 1=(ji x3) from zR ha2 h1 mi) fun h16=>g1 16 (.int .u8 (IntKind.u8.wrap x3)) h16 fun h17=>wA [(17,.int .u8 (IntKind.u8.wrap x3))] [Enc.enc ((Kd.mk (IntKind.u8.wrap x3):Kd .u8):(Kd .u8))] h17 rfl rfl (show s2 18 = .gone from zR ha2 h18 rfl) ?_)
 obtain ⟨ap6,Eap6,h⟩:=zc h
 refine XQ (q:=15) (p:=[]) (o:=.of (ap5:LB)) (ys:=([(Kd.mk (IntKind.u8.wrap x3):Kd .u8)]:LB)) (t2:=.at 18 []) (lo2:=0) rfl rfl rfl (show s2 19 = .gone from zR ha2 h19 rfl) (ZT (o:=.of (ap5:LB)) Eap6 trivial) (fun s3 ha3=>gm (rf (zm (.at 19 []) (.of (ap6:LB)))) fun h4=>xo (y0 (r:=19) (x:=4) (v:=_) h4 rfl (fun s4 hz4=>?_)))
 refine ez [(4,zm (.at 4 []) (.of (ap6:LB)))] (hz4 4 _ _ h4 (zo (r:=19) (p:=[]) rfl rfl)) ?_
 rintro s h4
 refine .nsq (.ret ?_)
 obtain rfl:=oi h
 exact rrA (zr h4) (wP (vk (o:=.of ap6)) (xI rfl))
def Jr (F:Nat) (x1:LB) (x2:Int):Option LB:=
 bif decide (x2 > (x1.length:Int)) then
  X9 F x1 (x1.length:Int)
 else
  X9 F x1 x2
theorem t11 (H:H11 D σ F) (x1:LB) (x2:Int) (s:Nat→V) (hs:zu [(0,eB x1),(1,ji x2)] s) (h:Jr F x1 x2=some r):Run D σ (R11 r) (.run A11 []) s:=by
 unfold Jr at h
 obtain ⟨h0,h1⟩:=hs
 refine .seq (rg (g0 (.sl .nl (Enc.shp (Kd .u8)) 0 []) fun h4=>gq (.nsq (.seq (.seq (rg (gm h1 fun h5=>gm h0 fun h6=>gl x1 h6 fun h7=>g2 5 7 (jb (decide (x2 > (x1.length:Int)))) h5 h7 fun h8=>gq (.nsq (zp h8 h (fun h=>?_) (fun h=>?_))))))))))
 · refine rg (gm h0 fun h9=>gl x1 h9 fun h10=>gm h10 fun h1=>gq ?_)
   exact zb2 H x1 (x1.length:Int) _ ⟨h0,h1,h4⟩ h
 refine .skip ?_
 exact zb2 H x1 x2 _ ⟨h0,h1,h4⟩ h
end
def e11 (F:Nat):Ent:=ent 11 (fun (x:(LB×Int×Unit))=>Jr F x.1 x.2.1) (fun (r:LB)=>(eB r)) 0 false []
abbrev C11 (D:List V→Option V) (F:Nat):Prop:=∀ (x0:LB) (x1:Int) r,Jr F x0 x1=some r→D [Enc.enc x0,Enc.enc x1]=some (eB r)
theorem p11 {F:Nat}:C11 (e11 F).den F:=fun x0 x1 _ h=>zS (x0,x1,()) h
theorem o11 (hF:zF Try.prog D σ) (H:H11 D σ F):(e11 F).Ok Try.prog:=okZ (f:=11) Try.func11 fun ⟨x0,x1,_⟩ y hy=>cR hF Try.func11 c11 (t11 H x0 x1 _ ⟨rfl,rfl⟩ hy)
def zk3:AC:=(.cond (.t 20) (.seq (rr [jv 21 (.load (.ag [.s,.p]) (.t 4)),jm 22 5,jx 23 (.call (jf 27) [.t 21,.t 22]),jz (.store (.ag [.s,.p]) (.t 2) (.t 23))]) .ret) .skip)
def zk7:AC:=(.seq (rr [jv 24 (.load (.ag [.s,.p]) (.t 4)),jz (.store (.ag [.s,.p]) (.t 2) (.t 24))]) .ret)
def zry:AC:=(.seq (rr [jv 14 (.load (.ag [.s,.p]) (.t 4)),jm 15 5,jx 16 (.call (jf 26) [.t 14,.t 15]),jm 17 16,jg 18 17 true (.mov (.t 3)),.mk (some 19) (some (17,true)) false (.callT (jf 31) [.t 18,jn 2] [3] []),jv 20 (.pick (.t 17) (.t 19) kf)]) zk3)
def zrN:AC:=(.seq (.seq (rr [jm 11 3,jv 12 (.load (.ag [.s,.p]) (.t 4)),jx 13 (.callT (jf 20) [.t 11,.t 12] [3] []),jm 5 13]) zry) zk7)
def zsj:AC:=(.seq (.reg [.clr [4]] [jm 9 3,jx 10 (.callT (jf 19) [.t 9] [3] []),jx 4 (.alloc (.agg [i0,.sl .nl (.ag [.s,.s]) 0 []])),jz (.store (.ag [.s,.p]) (.t 4) (.t 10))] []) zrN)
def zqc:AC:=(.seq (.reg [.clr [8]] [jm 6 0,jv 7 (.bld (.agg [.sl .nl .s 0 [],i0,.int .u64 (.ofNat 0)]) [(0,0,.t 6)]),jx 8 (.box (.t 7)),jm 3 8] []) zsj)
def A10:AC:=(.seq (.reg [.clr [2]] [jx 2 (.alloc (.agg [i0,.sl .nl (.ag [.s,.s]) 0 []]))] []) zqc)
def ztm:List An:=[⟨0,[.clr [2]],[],[],[]⟩,⟨1,[.clr [8]],[],[],[]⟩,⟨2,[.clr [4]],[],[2000003],[]⟩,⟨3,[],[],[3000003],[]⟩,⟨4,[],[],[6000003],[]⟩]
theorem c10:cq Try.prog Try.f10 ztm=some A10:=by kernel_rfl
structure H10 (D:Den) (σ:Sig) (F:Nat):Prop where
 c19:C19 (D 19) F
 g19:σ 19=some (uZ,false)
 c20:C20 (D 20) F
 g20:σ 20=some (uZ,false)
 c26:C26 (D 26) F
 g26:σ 26=some (0,false)
 c31:C31 (D 31) F
 g31:σ 31=some (uZ,false)
 c27:C27 (D 27) F
 g27:σ 27=some (0,false)
abbrev R10 (r:GR):(Nat→V)→Prop:=RR Try.prog [.cell 2 26] 0 true (Enc.enc (r:GR))
section
variable {r:GR}
def yU (F:Nat) (r2:(GR×CU)) (r3:(LI×CU))  (x6:Bool):Option GR:=
 bif x6 then
  (ub F r2.1 r3.1).bind fun r7=>
  some r7
 else
  some r2.1
theorem zbY (H:H10 D σ F) (r2:(GR×CU)) (r3:(LI×CU))  (x6:Bool) (s:Nat→V) (hs:zu [(2,bZ 2),(4,bG 4 r2.1),(5,eL r3.1),(20,jb x6)] s) (h:yU F r2 r3  x6=some r):Run D σ (R10 r) (.nrm [.sq zk3,.sq zk7]) s:=by
 unfold yU at h
 obtain ⟨h2,h4,h5,h20⟩:=hs
 refine .nsq (zp h20 h (fun h=>?_) (fun h=>?_))
 · refine .seq (rg (g1 4 (gV r2.1) h4 fun h21=>gm h5 fun h22=>?_))
   obtain ⟨r7,Er7,h⟩:=zc h
   refine gcF [Enc.enc (r2.1:GR),eL r3.1] (zh h21 rfl (Enc.erase_enc (r2.1:GR)) (zh h22 rfl (Enc.erase_enc (r3.1:LI)) zI)) (H.c27 _ _ _ Er7) H.g27 (z5 (gV r7) (zx h2 rfl) (zx rfl rfl) (xE (by first | rfl | simp [V.toks,V.tokss,Enc.toks_enc,zX])) (gz [(2,bG 2 r7),(4,bG 4 r2.1)] ⟨zd h2 rfl,zd h4 (zy rfl rfl uIE)⟩ ?_))
   rintro s ⟨h2,h4⟩
   refine .nsq (.ret ?_)
   obtain rfl:=oi h
   exact rrA (xO h2 (by kernel_rfl)) (YU (wx (x:=(r7:GR))))
 refine .skip (.nsq (.seq (rg (g1 4 (gV r2.1) h4 fun h24=>z5 (gV r2.1) (zx h2 rfl) (zx h24 rfl) (xE (by first | rfl | simp [V.toks,V.tokss,Enc.toks_enc,zX])) (gz [(2,bG 2 r2.1)] (zd h2 rfl) ?_)))))
 rintro s h2
 refine .nsq (.ret ?_)
 obtain rfl:=oi h
 exact rrA (xO h2 (by kernel_rfl)) (YU (wx (x:=(r2.1:GR))))
def xh (F:Nat) (x1:LB):Option GR:=
 (vu F (cu x1 0 0)).bind fun r2=>
 (vd F (Cu.mk r2.2) r2.1).bind fun r3=>
 (vR F r2.1 r3.1).bind fun r8=>
 bif r8 then
  (wq F (Cu.mk r3.2) 2).bind fun r9=>
  yU F r2 r3 r9.1
 else
  yU F r2 r3 false
theorem t10 (H:H10 D σ F) (x1:LB) (s:Nat→V) (hs:zu [(0,eB x1)] s) (h:xh F x1=some r):Run D σ (R10 r) (.run A10 []) s:=by
 unfold xh at h
 have h0:=hs
 refine .seq (zA (zZ ?_))
 refine ez [(0,_),(2,_)] ⟨za h0 rfl me,ze rfl⟩ ?_
 rintro s ⟨h0,h2⟩
 refine yR h2 (gq (.nsq (.seq (zA (zZ ?_)))))
 refine ez [(0,_),(2,_),(8,_)] ⟨za h0 rfl me,za rfl rfl (zi rfl (mIx rfl)),ze rfl⟩ ?_
 rintro s ⟨h0,h2,h8⟩
 refine gm h0 fun h6=>g1 6 (.agg [eB x1,ji 0,.int .u64 0]) h6 fun h7=>xU (.agg [eB x1,ji 0,.int .u64 0]) (zx h7 rfl) h8 rfl (gm (rf (.ref (.bx 8) 0 [] (.agg [eB x1,ji 0,.int .u64 0]))) fun h3=>gq (.nsq (.seq (zA (zZ ?_)))))
 refine ez [(2,_),(3,_),(4,_)] ⟨za h2 rfl (zi rfl (mIx rfl)),za h3 rfl (zi rfl u7),ze rfl⟩ ?_
 rintro s ⟨h2,h3,h4⟩
 refine gm h3 fun h9=>?_
 obtain ⟨r2,Er2,h⟩:=zc h
 refine uz (r:=8) (b:=3) (x:=((S3.mk x1 0 (Kd.mk 0:Kd .u64)):CU)) (x':=r2.2) (vs:=[]) (res:=Enc.enc (r2.1:GR)) h3 (by exact (zQ (v:=cuV 8 ((S3.mk x1 0 (Kd.mk 0:Kd .u64)):CU)) h9 rfl y5)) yK (fun f=>zn) (H.c19 _ _ Er2) H.g19 te rfl (fun s4 hb4 ha4=>yR (show s4 4 = .gone from ha4 4 _ _ h4 rfl rfl) (z5 (gV r2.1) (zx rfl rfl) (zx rfl rfl) (xE (by first | rfl | simp [V.toks,V.tokss,Enc.toks_enc,zX])) ?_))
 refine gz [(2,bZ 2),(3,.ref (.bx 8) 0 [] (cV r2.2)),(4,bG 4 r2.1)] ⟨zd (show s4 2=(bZ 2) from ha4 2 _ _ h2 rfl (zi rfl (mIx rfl))) (zy rfl rfl (yx (zq rfl (zq rfl rfl)))),zd (show s4 3=(.ref (.bx 8) 0 [] (cV r2.2)) from hb4 3 h3) (zy rfl rfl UU),zd rfl rfl⟩ ?_
 rintro s ⟨h2,h3,h4⟩
 refine .nsq (.seq (.seq (rg (gm h3 fun h11=>g1 4 (gV r2.1) h4 fun h12=>?_))))
 obtain ⟨r3,Er3,h⟩:=zc h
 refine uz (r:=8) (b:=3) (x:=r2.2) (x':=r3.2) (vs:=[Enc.enc (r2.1:GR)]) (res:=eL r3.1) h3 (by exact (zQ (v:=cuV 8 r2.2) h11 rfl (zQ (v:=Enc.enc (r2.1:GR)) h12 rfl y5))) (yr te yK) fm1 (H.c20 _ _ _ Er3) H.g20 te rfl (fun s5 hb5 ha5=>gm (rf (eL r3.1)) fun h5=>gz [(2,bZ 2),(3,_),(4,bG 4 r2.1),(5,_)] ⟨(show s5 2=(bZ 2) from ha5 2 _ _ h2 rfl (zi rfl (mIx rfl))),(show s5 3=(.ref (.bx 8) 0 [] (cV r3.2)) from hb5 3 h3),(show s5 4=(bG 4 r2.1) from ha5 4 _ _ h4 rfl (zi rfl mIE)),h5⟩ ?_)
 rintro s ⟨h2,h3,h4,h5⟩
 refine .nsq (.seq (rg (g1 4 (gV r2.1) h4 fun h14=>gm h5 fun h15=>?_)))
 obtain ⟨r8,Er8,h⟩:=zc h
 refine gcF [Enc.enc (r2.1:GR),eL r3.1] (zh h14 rfl (Enc.erase_enc (r2.1:GR)) (zh h15 rfl (Enc.erase_enc (r3.1:LI)) zI)) (H.c26 _ _ _ Er8) H.g26 (gm (rf (jb r8)) fun h17=>yj h (fun hg4 h=>?_) (fun hg4 h=>?_))
 · refine zt (ct h17 hg4) (gm h3 fun h18=>?_)
   obtain ⟨r9,Er9,h⟩:=zc h
   refine zt (ct h17 hg4) (uz (r:=8) (b:=3) (x:=r3.2) (x':=r9.2) (vs:=[Enc.enc (2:Int)]) (res:=Enc.enc (r9.1:Bool)) h3 (by exact (zQ (v:=cuV 8 r3.2) h18 rfl (zQ (v:=Enc.enc (2:Int)) rfl rfl y5))) (yr te yK) fm1 (H.c31 _ _ _ Er9) H.g31 te rfl (fun s7 hb7 ha7=>g2 17 19 (jb r9.1) (show s7 17=(jb true) from ha7 17 _ _ (ct h17 hg4) rfl mb) (rf (jb r9.1)) fun h20=>gz [(2,bZ 2),(4,bG 4 r2.1),(5,eL r3.1),(20,_)] ⟨(show s7 2=(bZ 2) from ha7 2 _ _ h2 rfl (zi rfl (mIx rfl))),(show s7 4=(bG 4 r2.1) from ha7 4 _ _ h4 rfl (zi rfl mIE)),(show s7 5=(eL r3.1) from ha7 5 _ _ h5 rfl me),h20⟩ ?_))
   rintro s ⟨h2,h4,h5,h20⟩
   exact zbY H r2 r3 r9.1 _ ⟨h2,h4,h5,h20⟩ h
 iterate 2 refine yY (ct h17 hg4) ?_
 refine g2 17 19 (jb false) (ct h17 hg4) (rf (.tup [])) fun h20=>gq ?_
 exact zbY H r2 r3 false _ ⟨h2,h4,h5,h20⟩ h
end
def e10 (F:Nat):Ent:=ent 10 (fun (x:(LB×Unit))=>xh F x.1) (fun (r:GR)=>(Enc.enc (r:GR))) 0 true []
abbrev C10 (D:List V→Option V) (F:Nat):Prop:=∀ (x0:LB) r,xh F x0=some r→D [Enc.enc x0]=some (Enc.enc (r:GR))
theorem p10 {F:Nat}:C10 (e10 F).den F:=fun x0 _ h=>zS (x0,()) h
theorem o10 (hF:zF Try.prog D σ) (H:H10 D σ F):(e10 F).Ok Try.prog:=okZ (f:=10) Try.func10 fun ⟨x0,_⟩ y hy=>cR hF Try.func10 c10 (t10 H x0 _ rfl hy)
def zsV:AC:=(.seq (rr [jv 5 (.fld (.t 2) 0 0),jv 6 (.load .p (.t 5)),jm 7 1,jv 8 (.idx (.t 6) (.t 7) 1),jl 9 8,jm 10 1,jv 11 (.bin .shl (jn 1) (.t 10)),jv 12 (.bin .or (.t 9) (.t 11)),jm 4 12]) .ret)
def A64:AC:=(.seq (.reg [.clr [2]] [jx 2 (.box (.t 0)),jv 4 (.mov (jn 0))] []) zsV)
def ztS:List An:=[⟨0,[.clr [2]],[],[],[]⟩]
theorem c64:cq Try.prog Try.f64 ztS=some A64:=by kernel_rfl
structure H64 (D:Den) (σ:Sig) (F:Nat):Prop where
 mk ::
abbrev R64 (r:Int):(Nat→V)→Prop:=RR Try.prog [.tmp 4] 0 false (Enc.enc (r:Int))
section
variable {r:Int}
def Zz (F:Nat) (x1:(S1 LI)) (x2:Int):Option Int:=
 (idx x1.a x2).bind fun v3=>
 (WZ .i64 1 x2).bind fun q4=>
 some (ior .i64 v3 q4)
theorem t64 (H:H64 D σ F) (x1:(S1 LI)) (x2:Int) (s:Nat→V) (hs:zu [(0,.agg [eL x1.a]),(1,ji x2)] s) (h:Zz F x1 x2=some r):Run D σ (R64 r) (.run A64 []) s:=by
 unfold Zz at h
 obtain ⟨h0,h1⟩:=hs
 refine .seq (zA (zZ ?_))
 refine ez [(0,_),(1,_),(2,_)] ⟨za h0 rfl (zH (zf me zn)),za h1 rfl mi,ze rfl⟩ ?_
 rintro s ⟨h0,h1,h2⟩
 refine xU (.agg [eL x1.a]) (zx h0 rfl) h2 rfl (g0 (ji 0) fun h4=>gq (.nsq (.seq (rg (g1 2 (.ref (.bx 2) 0 [0] (eL x1.a)) (rf (.ref (.bx 2) 0 [] (.agg [eL x1.a]))) fun h5=>g1 5 (eL x1.a) h5 fun h6=>gm h1 fun h7=>?_)))))
 obtain ⟨v3,Ev3,h⟩:=zc h
 refine gv (.ref .sh 0 [] (ji v3)) (yV (t:=.sh) (lo:=0) (xs:=x1.a) h6 h7 Ev3 rfl rfl) fun h8=>g1 8 (ji v3) h8 fun h9=>gm h1 fun h10=>?_
 obtain ⟨q4,Eq4,h⟩:=zc h
 refine gv (ji q4) (YF rfl h10 Eq4) fun h11=>g2 9 11 (ji (ior .i64 v3 q4)) h9 h11 fun h12=>gm h12 fun h4=>gq (.nsq (.ret ?_))
 obtain rfl:=oi h
 exact rrA (zr h4) rfl
end
def e64 (F:Nat):Ent:=ent 64 (fun (x:((S1 LI)×Int×Unit))=>Zz F x.1 x.2.1) (fun (r:Int)=>(Enc.enc (r:Int))) 0 false []
abbrev C64 (D:List V→Option V) (F:Nat):Prop:=∀ (x0:(S1 LI)) (x1:Int) r,Zz F x0 x1=some r→D [Enc.enc x0,Enc.enc x1]=some (Enc.enc (r:Int))
theorem p64 {F:Nat}:C64 (e64 F).den F:=fun x0 x1 _ h=>zS (x0,x1,()) h
theorem o64 (hF:zF Try.prog D σ) (H:H64 D σ F):(e64 F).Ok Try.prog:=okZ (f:=64) Try.func64 fun ⟨x0,x1,_⟩ y hy=>cR hF Try.func64 c64 (t64 H x0 x1 _ ⟨rfl,rfl⟩ hy)
def zo1:AC:=(.seq (rr [jl 5 1,jv 6 (.load (.ag [.p]) (.t 2)),jm 7 0,jx 8 (.call (jf 64) [.t 6,.t 7]),jv 9 (.bin .andNot (.t 5) (.t 8)),jv 10 (.bin .neq (.t 9) (jn 0)),jm 4 10]) .ret)
def A63:AC:=(.seq (rr [jv 4 (.mov kf)]) zo1)
def zs8:List An:=[]
theorem c63:cq Try.prog Try.f63 zs8=some A63:=by kernel_rfl
structure H63 (D:Den) (σ:Sig) (F:Nat):Prop where
 c64:C64 (D 64) F
 g64:σ 64=some (0,false)
abbrev R63 (r:Bool):(Nat→V)→Prop:=RR Try.prog [.tmp 4] 0 false (Enc.enc (r:Bool))
section
variable {r:Bool}
def vD (F:Nat) (x1:Int) (rf_2:(Rf Int)) (rf_3:(Rf (S1 LI))):Option Bool:=
 (Zz F rf_3.v x1).bind fun r4=>
 some ((zY .i64 rf_2.v r4) != 0)
theorem t63 (H:H63 D σ F) (x1:Int) (rf_2:(Rf Int)) (rf_3:(Rf (S1 LI))) (s:Nat→V) (hs:zu [(0,ji x1),(1,.ref .sh 0 [] (ji rf_2.v)),(2,.ref .sh 0 [] (.agg [eL rf_3.v.a]))] s) (h:vD F x1 rf_2 rf_3=some r):Run D σ (R63 r) (.run A63 []) s:=by
 unfold vD at h
 obtain ⟨h0,h1,h2⟩:=hs
 refine .seq (rg (g0 (jb false) fun h4=>gq (.nsq (.seq (rg (g1 1 (ji rf_2.v) h1 fun h5=>g1 2 (.agg [eL rf_3.v.a]) h2 fun h6=>gm h0 fun h7=>?_))))))
 obtain ⟨r4,Er4,h⟩:=zc h
 refine gcF [Enc.enc (rf_3.v:(S1 LI)),Enc.enc (x1:Int)] (zh h6 rfl (Enc.erase_enc (rf_3.v:(S1 LI))) (zh h7 rfl rfl zI)) (H.c64 _ _ _ Er4) H.g64 (g2 5 8 (ji (zY .i64 rf_2.v r4)) h5 (rf (ji r4)) fun h9=>g1 9 (jb ((zY .i64 rf_2.v r4) != 0)) h9 fun h10=>gm h10 fun h4=>gq (.nsq (.ret ?_)))
 obtain rfl:=oi h
 exact rrA (zr h4) rfl
end
def e63 (F:Nat):Ent:=ent 63 (fun (x:(Int×(Rf Int)×(Rf (S1 LI))×Unit))=>vD F x.1 x.2.1 x.2.2.1) (fun (r:Bool)=>(Enc.enc (r:Bool))) 0 false []
abbrev C63 (D:List V→Option V) (F:Nat):Prop:=∀ (x0:Int) (x1:(Rf Int)) (x2:(Rf (S1 LI))) r,vD F x0 x1 x2=some r→D [Enc.enc x0,Arg.arg x1,Arg.arg x2]=some (Enc.enc (r:Bool))
theorem p63 {F:Nat}:C63 (e63 F).den F:=fun x0 x1 x2 _ h=>zS (x0,x1,x2,()) h
theorem o63 (hF:zF Try.prog D σ) (H:H63 D σ F):(e63 F).Ok Try.prog:=okZ (f:=63) Try.func63 fun ⟨x0,x1,x2,_⟩ y hy=>cR hF Try.func63 c63 (t63 H x0 x1 x2 _ ⟨rfl,rfl,rfl⟩ hy)
def zjz:AC:=(.cond (.t 16) (.seq (rr [jm 17 5,jm 4 17]) .ret) .skip)
def zkn:AC:=(.seq (rr [jm 11 1,jm 12 0,jm 13 5,jv 14 (.idx (.t 12) (.t 13) 1),jl 15 14,jx 16 (.call (.t 11) [.t 15])]) zjz)
def zks:AC:=(rr [jv 18 (.bin .add (.t 8) (jn 1)),jm 8 18])
def zka:AC:=(.seq (.block 1 (.seq (rr [jm 10 8,jm 5 10]) zkn)) zks)
def zjs:AC:=(.seq (.cond (.t 9) .skip (.exit 0)) zka)
def zaE:AC:=(.seq (rr [jv 9 (.bin .lss (.t 8) (.t 7))]) zjs)
def zeW:AC:=(.seq (rr [jv 4 (.mov (jn (-1)))]) .ret)
def zjE:AC:=(.block 0 (.loop zaE))
def zjD:AC:=(.seq (.seq (rr [jm 6 0,jk 7 6,jv 8 (.mov (jn 0))]) zjE) zeW)
def zll:AC:=(.seq (rr [jv 4 (.mov (jn 0))]) zjD)
def zl1:List An:=[]
theorem c33s2:cq Try.prog Try.f33 zl1=some zll:=by kernel_rfl
structure zgT (D:Den) (σ:Sig) (F:Nat):Prop where
 c63:C63 (D 63) F
 g63:σ 63=some (0,false)
abbrev zlF (r:Int):(Nat→V)→Prop:=RR Try.prog [.tmp 4] 0 false (Enc.enc (r:Int))
section
variable {r:Int}
def yg (F:Nat) (x1:LI) (x2:(Cl 63 Unit ((Rf Int)×(Rf (S1 LI))×Unit))) :Nat→Int→Option Int
 | 0,_=>none
 | k + 1,x5=>
   bif decide (x5 < (x1.length:Int)) then
    (idx x1 x5).bind fun v8=>
    (vD F v8 x2.env.1 x2.env.2.1).bind fun r9=>
    bif r9 then
     some x5
    else
     (yg F x1 x2 k) (w64 (x5 + 1))
   else
    some (-1)
theorem zdl (H:zgT D σ F) (x1:LI) (x2:(Cl 63 Unit ((Rf Int)×(Rf (S1 LI))×Unit))) :∀ (k:Nat) (x5:Int) (s:Nat→V),zu [(0,eL x1),(1,.fn 63 [] [.ref .sh 0 [] (ji x2.env.1.v),.ref .sh 0 [] (.agg [eL x2.env.2.1.v.a])]),(4,ji 0),(7,ji (x1.length:Int)),(8,ji x5)] s→yg F x1 x2 k x5=some r→Run D σ (zlF r) (.run zaE [.lp zaE,.bk 0,.sq zeW]) s:=by
 intro k
 induction k with
 | zero=>intro x5 s _ h;exact nm h
 | succ k ih=>
   intro x5 s hs h
   rw [yg] at h
   obtain ⟨h0,h1,h4,h7,h8⟩:=hs
   refine .seq (rg (g2 8 7 (jb (decide (x5 < (x1.length:Int)))) h8 h7 fun h9=>gq (.nsq (.seq (zp h9 h (fun h=>?_) (fun h=>?_))))))
   · refine .skip (.nsq (.seq (.block (.seq (rg (gm h8 fun h10=>gm h10 fun h5=>gq (.nsq (.seq (rg (gm h1 fun h11=>gm h0 fun h12=>gm h5 fun h13=>?_))))))))))
     obtain ⟨v8,Ev8,h⟩:=zc h
     refine gv (.ref .sh 0 [] (ji v8)) (yV (t:=.sh) (lo:=0) (xs:=x1) h12 h13 Ev8 rfl rfl) fun h14=>g1 14 (ji v8) h14 fun h15=>?_
     obtain ⟨r9,Er9,h⟩:=zc h
     refine LY (m:=0) (al:=false) (r:=Enc.enc (r9:Bool)) (fs:=[]) (env:=[.ref .sh 0 [] (ji x2.env.1.v),.ref .sh 0 [] (.agg [eL x2.env.2.1.v.a])]) (us:=[]) (ws:=[Arg.arg (x2.env.1:(Rf Int)),Arg.arg (x2.env.2.1:(Rf (S1 LI)))]) h11 xx (xD (uS rfl) (xD (uS (Enc.erase_enc (x2.env.2.1.v:(S1 LI)))) xx)) rfl [Enc.enc (v8:Int)] (zh h15 rfl rfl zI) (H.c63 _ _ _ _ Er9) H.g63 rfl rfl rfl rfl (gq (.nsq (zp rfl h (fun h=>?_) (fun h=>?_))))
     · refine .seq (rg (gm h5 fun h17=>gm h17 fun h4=>gq (.nsq (.ret ?_))))
       obtain rfl:=oi h
       exact rrA (zr h4) rfl
     refine .skip (.nbk (.nsq (rg (g1 8 (ji (w64 (x5 + 1))) h8 fun h18=>gm h18 fun h8=>gq (.nlp ?_)))))
     exact ih (w64 (x5 + 1)) _ ⟨h0,h1,h4,h7,h8⟩ h
   refine .exit (.esq (.elp (.ebk (.nsq (.seq (rg (g0 (ji (-1)) fun h4=>gq (.nsq (.ret ?_)))))))))
   obtain rfl:=oi h
   exact rrA (zr h4) rfl
def yA (F:Nat) (x1:LI) (x2:(Cl 63 Unit ((Rf Int)×(Rf (S1 LI))×Unit))):Option Int:=
 yg F x1 x2 F 0
theorem zoN (H:zgT D σ F) (x1:LI) (x2:(Cl 63 Unit ((Rf Int)×(Rf (S1 LI))×Unit))) (s:Nat→V) (hs:zu [(0,eL x1),(1,.fn 63 [] [.ref .sh 0 [] (ji x2.env.1.v),.ref .sh 0 [] (.agg [eL x2.env.2.1.v.a])])] s) (h:yA F x1 x2=some r):Run D σ (zlF r) (.run zll []) s:=by
 unfold yA at h
 obtain ⟨h0,h1⟩:=hs
 refine .seq (rg (g0 (ji 0) fun h4=>gq (.nsq (.seq (.seq (rg (gm h0 fun h6=>gl x1 h6 fun h7=>g0 (ji 0) fun h8=>gq (.nsq (.block (.loop ?_))))))))))
 exact zdl H x1 x2 F 0 _ ⟨h0,h1,h4,h7,h8⟩ h
end
def zil (F:Nat):Ent:=ent 33 (fun (x:(LI×(Cl 63 Unit ((Rf Int)×(Rf (S1 LI))×Unit))×Unit))=>yA F x.1 x.2.1) (fun (r:Int)=>(Enc.enc (r:Int))) 0 false [(1,63)]
abbrev zlE (D:List V→Option V) (F:Nat):Prop:=∀ (x0:LI) (x1:(Cl 63 Unit ((Rf Int)×(Rf (S1 LI))×Unit))) r,yA F x0 x1=some r→D [Enc.enc x0,Arg.arg x1]=some (Enc.enc (r:Int))
theorem zrD {F:Nat}:zlE (zil F).den F:=fun x0 x1 _ h=>zS (x0,x1,()) h
theorem zsJ (hF:zF Try.prog D σ) (H:zgT D σ F):(zil F).Ok Try.prog:=okZ (f:=33) Try.func33 fun ⟨x0,x1,_⟩ y hy=>cR hF Try.func33 c33s2 (zoN H x0 x1 _ ⟨rfl,rfl⟩ hy)
def zkj:AC:=(.seq (rr [jm 5 0,jm 6 1,jx 7 (.call (jf 33) [.t 5,.t 6]),jv 8 (.bin .geq (.t 7) (jn 0)),jm 4 8]) .ret)
def zln:AC:=(.seq (rr [jv 4 (.mov kf)]) zkj)
def zl2:List An:=[]
theorem c62s1:cq Try.prog Try.f62 zl2=some zln:=by kernel_rfl
structure zly (D:Den) (σ:Sig) (F:Nat):Prop where
 c33s2:zlE (D 33) F
 g33s2:σ 33=some (0,false)
abbrev zpv (r:Bool):(Nat→V)→Prop:=RR Try.prog [.tmp 4] 0 false (Enc.enc (r:Bool))
section
variable {r:Bool}
def yq (F:Nat) (x1:LI) (x2:(Cl 63 Unit ((Rf Int)×(Rf (S1 LI))×Unit))):Option Bool:=
 (yA F x1 x2).bind fun r3=>
 some (decide (r3≥0))
theorem zqm (H:zly D σ F) (x1:LI) (x2:(Cl 63 Unit ((Rf Int)×(Rf (S1 LI))×Unit))) (s:Nat→V) (hs:zu [(0,eL x1),(1,.fn 63 [] [.ref .sh 0 [] (ji x2.env.1.v),.ref .sh 0 [] (.agg [eL x2.env.2.1.v.a])])] s) (h:yq F x1 x2=some r):Run D σ (zpv r) (.run zln []) s:=by
 unfold yq at h
 obtain ⟨h0,h1⟩:=hs
 refine .seq (rg (g0 (jb false) fun h4=>gq (.nsq (.seq (rg (gm h0 fun h5=>gm h1 fun h6=>?_))))))
 obtain ⟨r3,Er3,h⟩:=zc h
 refine gcF [eL x1,Arg.arg (x2:(Cl 63 Unit ((Rf Int)×(Rf (S1 LI))×Unit)))] (zh h5 rfl (Enc.erase_enc (x1:LI)) (zh h6 rfl (Jg xx (xD (uS rfl) (xD (uS (Enc.erase_enc (x2.env.2.1.v:(S1 LI)))) xx))) zI)) (H.c33s2 _ _ _ Er3) H.g33s2 (g1 7 (jb (decide (r3≥0))) (rf (ji r3)) fun h8=>gm h8 fun h4=>gq (.nsq (.ret ?_)))
 obtain rfl:=oi h
 exact rrA (zr h4) rfl
end
def zhd (F:Nat):Ent:=ent 62 (fun (x:(LI×(Cl 63 Unit ((Rf Int)×(Rf (S1 LI))×Unit))×Unit))=>yq F x.1 x.2.1) (fun (r:Bool)=>(Enc.enc (r:Bool))) 0 false [(1,63)]
abbrev zlf (D:List V→Option V) (F:Nat):Prop:=∀ (x0:LI) (x1:(Cl 63 Unit ((Rf Int)×(Rf (S1 LI))×Unit))) r,yq F x0 x1=some r→D [Enc.enc x0,Arg.arg x1]=some (Enc.enc (r:Bool))
theorem zrv {F:Nat}:zlf (zhd F).den F:=fun x0 x1 _ h=>zS (x0,x1,()) h
theorem zo0 (hF:zF Try.prog D σ) (H:zly D σ F):(zhd F).Ok Try.prog:=okZ (f:=62) Try.func62 fun ⟨x0,x1,_⟩ y hy=>cR hF Try.func62 c62s1 (zqm H x0 x1 _ ⟨rfl,rfl⟩ hy)
def zrF:AC:=(.seq (rr [jl 5 3,jx 6 (.call (jf 34) [.t 5]),jv 7 (.fn 63 [] [.t 3,.t 2]),jx 8 (.call (jf 62) [.t 6,.t 7]),jv 9 (.un .not (.t 8)),jm 4 9]) .ret)
def A36:AC:=(.seq (.reg [.clr [2,3]] [jx 2 (.box (.t 0)),jx 3 (.box (.t 1)),jv 4 (.mov kf)] []) zrF)
def zuC:List An:=[⟨0,[.clr [2,3]],[],[],[]⟩]
theorem c36:cq Try.prog Try.f36 zuC=some A36:=by kernel_rfl
structure H36 (D:Den) (σ:Sig) (F:Nat):Prop where
 c34:C34 (D 34) F
 g34:σ 34=some (0,false)
 c62s1:zlf (D 62) F
 g62s1:σ 62=some (0,false)
abbrev R36 (r:Bool):(Nat→V)→Prop:=RR Try.prog [.tmp 4] 0 false (Enc.enc (r:Bool))
section
variable {r:Bool}
def ve (F:Nat) (x1:(S1 LI)) (x2:Int):Option Bool:=
 (uH F x2).bind fun r3=>
 (yq F r3 (Cl.mk () ((Rf.mk x2:(Rf Int)),(Rf.mk x1:(Rf (S1 LI))),()):(Cl 63 Unit ((Rf Int)×(Rf (S1 LI))×Unit)))).bind fun r4=>
 some (!r4)
theorem t36 (H:H36 D σ F) (x1:(S1 LI)) (x2:Int) (s:Nat→V) (hs:zu [(0,.agg [eL x1.a]),(1,ji x2)] s) (h:ve F x1 x2=some r):Run D σ (R36 r) (.run A36 []) s:=by
 unfold ve at h
 obtain ⟨h0,h1⟩:=hs
 refine .seq (zA (zZ ?_))
 refine ez [(0,_),(1,_),(2,_),(3,_)] ⟨za h0 rfl (zH (zf me zn)),za h1 rfl mi,ze rfl,ze rfl⟩ ?_
 rintro s ⟨h0,h1,h2,h3⟩
 refine xU (.agg [eL x1.a]) (zx h0 rfl) h2 rfl (xU (ji x2) (zx h1 rfl) h3 rfl (g0 (jb false) fun h4=>gq (.nsq (.seq (rg (g1 3 (ji x2) (rf (.ref (.bx 3) 0 [] (ji x2))) fun h5=>?_))))))
 obtain ⟨r3,Er3,h⟩:=zc h
 refine gcF [Enc.enc (x2:Int)] (zh h5 rfl rfl zI) (H.c34 _ _ Er3) H.g34 (g2 3 2 (.fn 63 [] [.ref (.bx 3) 0 [] (ji x2),.ref (.bx 2) 0 [] (.agg [eL x1.a])]) (rf (.ref (.bx 3) 0 [] (ji x2))) (rf (.ref (.bx 2) 0 [] (.agg [eL x1.a]))) fun h7=>?_)
 obtain ⟨r4,Er4,h⟩:=zc h
 refine gcF [eL r3,Arg.arg ((Cl.mk () ((Rf.mk x2:(Rf Int)),(Rf.mk x1:(Rf (S1 LI))),()):(Cl 63 Unit ((Rf Int)×(Rf (S1 LI))×Unit))):(Cl 63 Unit ((Rf Int)×(Rf (S1 LI))×Unit)))] (zh (v:=eL r3) rfl rfl (Enc.erase_enc (r3:LI)) (zh h7 rfl (Jg xx (xD (uS rfl) (xD (uS (Enc.erase_enc (x1:(S1 LI)))) xx))) zI)) (H.c62s1 _ _ _ Er4) H.g62s1 (g1 8 (jb (!r4)) (rf (jb r4)) fun h9=>gm h9 fun h4=>gq (.nsq (.ret ?_)))
 obtain rfl:=oi h
 exact rrA (zr h4) rfl
end
def e36 (F:Nat):Ent:=ent 36 (fun (x:((S1 LI)×Int×Unit))=>ve F x.1 x.2.1) (fun (r:Bool)=>(Enc.enc (r:Bool))) 0 false []
abbrev C36 (D:List V→Option V) (F:Nat):Prop:=∀ (x0:(S1 LI)) (x1:Int) r,ve F x0 x1=some r→D [Enc.enc x0,Enc.enc x1]=some (Enc.enc (r:Bool))
theorem p36 {F:Nat}:C36 (e36 F).den F:=fun x0 x1 _ h=>zS (x0,x1,()) h
theorem o36 (hF:zF Try.prog D σ) (H:H36 D σ F):(e36 F).Ok Try.prog:=okZ (f:=36) Try.func36 fun ⟨x0,x1,_⟩ y hy=>cR hF Try.func36 c36 (t36 H x0 x1 _ ⟨rfl,rfl⟩ hy)
def zsS:AC:=(.seq (rr [jv 5 (.load (.ag [.p]) (.t 1)),jv 6 (.fld (.t 1) 0 0),jv 7 (.load .p (.t 6)),jm 8 0,jv 9 (.idx (.t 7) (.t 8) 1),jl 10 9,jl 11 2,jv 12 (.bin .and (.t 10) (.t 11)),jx 13 (.call (jf 36) [.t 5,.t 12]),jm 4 13]) .ret)
def A35:AC:=(.seq (rr [jv 4 (.mov kf)]) zsS)
def zuH:List An:=[]
theorem c35:cq Try.prog Try.f35 zuH=some A35:=by kernel_rfl
structure H35 (D:Den) (σ:Sig) (F:Nat):Prop where
 c36:C36 (D 36) F
 g36:σ 36=some (0,false)
abbrev R35 (r:Bool):(Nat→V)→Prop:=RR Try.prog [.tmp 4] 0 false (Enc.enc (r:Bool))
section
variable {r:Bool}
def xV (F:Nat) (x1:Int) (rf_2:(Rf (S1 LI))) (rf_3:(Rf Int)):Option Bool:=
 (idx rf_2.v.a x1).bind fun v4=>
 (ve F rf_2.v (yu .i64 v4 rf_3.v)).bind fun r5=>
 some r5
theorem t35 (H:H35 D σ F) (x1:Int) (rf_2:(Rf (S1 LI))) (rf_3:(Rf Int)) (s:Nat→V) (hs:zu [(0,ji x1),(1,.ref .sh 0 [] (.agg [eL rf_2.v.a])),(2,.ref .sh 0 [] (ji rf_3.v))] s) (h:xV F x1 rf_2 rf_3=some r):Run D σ (R35 r) (.run A35 []) s:=by
 unfold xV at h
 obtain ⟨h0,h1,h2⟩:=hs
 refine .seq (rg (g0 (jb false) fun h4=>gq (.nsq (.seq (rg (g1 1 (.agg [eL rf_2.v.a]) h1 fun h5=>g1 1 (.ref .sh 0 [0] (eL rf_2.v.a)) h1 fun h6=>g1 6 (eL rf_2.v.a) h6 fun h7=>gm h0 fun h8=>?_))))))
 obtain ⟨v4,Ev4,h⟩:=zc h
 refine gv (.ref .sh 0 [] (ji v4)) (yV (t:=.sh) (lo:=0) (xs:=rf_2.v.a) h7 h8 Ev4 rfl rfl) fun h9=>g1 9 (ji v4) h9 fun h10=>g1 2 (ji rf_3.v) h2 fun h11=>g2 10 11 (ji (yu .i64 v4 rf_3.v)) h10 h11 fun h12=>?_
 obtain ⟨r5,Er5,h⟩:=zc h
 refine gcF [Enc.enc (rf_2.v:(S1 LI)),Enc.enc (yu .i64 v4 rf_3.v:Int)] (zh h5 rfl (Enc.erase_enc (rf_2.v:(S1 LI))) (zh h12 rfl rfl zI)) (H.c36 _ _ _ Er5) H.g36 (gm (rf (jb r5)) fun h4=>gq (.nsq (.ret ?_)))
 obtain rfl:=oi h
 exact rrA (zr h4) rfl
end
def e35 (F:Nat):Ent:=ent 35 (fun (x:(Int×(Rf (S1 LI))×(Rf Int)×Unit))=>xV F x.1 x.2.1 x.2.2.1) (fun (r:Bool)=>(Enc.enc (r:Bool))) 0 false []
abbrev C35 (D:List V→Option V) (F:Nat):Prop:=∀ (x0:Int) (x1:(Rf (S1 LI))) (x2:(Rf Int)) r,xV F x0 x1 x2=some r→D [Enc.enc x0,Arg.arg x1,Arg.arg x2]=some (Enc.enc (r:Bool))
theorem p35 {F:Nat}:C35 (e35 F).den F:=fun x0 x1 x2 _ h=>zS (x0,x1,x2,()) h
theorem o35 (hF:zF Try.prog D σ) (H:H35 D σ F):(e35 F).Ok Try.prog:=okZ (f:=35) Try.func35 fun ⟨x0,x1,x2,_⟩ y hy=>cR hF Try.func35 c35 (t35 H x0 x1 x2 _ ⟨rfl,rfl,rfl⟩ hy)
def zjT:AC:=(.cond (.t 16) (.seq (rr [jm 17 5,jm 4 17]) .ret) .skip)
def zj3:AC:=(.seq (rr [jm 11 1,jm 12 0,jm 13 5,jv 14 (.idx (.t 12) (.t 13) 1),jl 15 14,jx 16 (.call (.t 11) [.t 15])]) zjT)
def zj7:AC:=(rr [jv 18 (.bin .add (.t 8) (jn 1)),jm 8 18])
def zkq:AC:=(.seq (.block 1 (.seq (rr [jm 10 8,jm 5 10]) zj3)) zj7)
def zkN:AC:=(.seq (.cond (.t 9) .skip (.exit 0)) zkq)
def QH:AC:=(.seq (rr [jv 9 (.bin .lss (.t 8) (.t 7))]) zkN)
def ze8:AC:=(.seq (rr [jv 4 (.mov (jn (-1)))]) .ret)
def zju:AC:=(.block 0 (.loop QH))
def zjw:AC:=(.seq (.seq (rr [jm 6 0,jk 7 6,jv 8 (.mov (jn 0))]) zju) ze8)
def zkQ:AC:=(.seq (rr [jv 4 (.mov (jn 0))]) zjw)
def znr:List An:=[]
theorem c33s1:cq Try.prog Try.f33 znr=some zkQ:=by kernel_rfl
structure zi4 (D:Den) (σ:Sig) (F:Nat):Prop where
 c35:C35 (D 35) F
 g35:σ 35=some (0,false)
abbrev zkV (r:Int):(Nat→V)→Prop:=RR Try.prog [.tmp 4] 0 false (Enc.enc (r:Int))
section
variable {r:Int}
def z6 (F:Nat) (x1:LI) (x2:(Cl 35 Unit ((Rf (S1 LI))×(Rf Int)×Unit))) :Nat→Int→Option Int
 | 0,_=>none
 | k + 1,x5=>
   bif decide (x5 < (x1.length:Int)) then
    (idx x1 x5).bind fun v8=>
    (xV F v8 x2.env.1 x2.env.2.1).bind fun r9=>
    bif r9 then
     some x5
    else
     (z6 F x1 x2 k) (w64 (x5 + 1))
   else
    some (-1)
theorem zc9 (H:zi4 D σ F) (x1:LI) (x2:(Cl 35 Unit ((Rf (S1 LI))×(Rf Int)×Unit))) :∀ (k:Nat) (x5:Int) (s:Nat→V),zu [(0,eL x1),(1,.fn 35 [] [.ref .sh 0 [] (.agg [eL x2.env.1.v.a]),.ref .sh 0 [] (ji x2.env.2.1.v)]),(4,ji 0),(7,ji (x1.length:Int)),(8,ji x5)] s→z6 F x1 x2 k x5=some r→Run D σ (zkV r) (.run QH [.lp QH,.bk 0,.sq ze8]) s:=by
 intro k
 induction k with
 | zero=>intro x5 s _ h;exact nm h
 | succ k ih=>
   intro x5 s hs h
   rw [z6] at h
   obtain ⟨h0,h1,h4,h7,h8⟩:=hs
   refine .seq (rg (g2 8 7 (jb (decide (x5 < (x1.length:Int)))) h8 h7 fun h9=>gq (.nsq (.seq (zp h9 h (fun h=>?_) (fun h=>?_))))))
   · refine .skip (.nsq (.seq (.block (.seq (rg (gm h8 fun h10=>gm h10 fun h5=>gq (.nsq (.seq (rg (gm h1 fun h11=>gm h0 fun h12=>gm h5 fun h13=>?_))))))))))
     obtain ⟨v8,Ev8,h⟩:=zc h
     refine gv (.ref .sh 0 [] (ji v8)) (yV (t:=.sh) (lo:=0) (xs:=x1) h12 h13 Ev8 rfl rfl) fun h14=>g1 14 (ji v8) h14 fun h15=>?_
     obtain ⟨r9,Er9,h⟩:=zc h
     refine LY (m:=0) (al:=false) (r:=Enc.enc (r9:Bool)) (fs:=[]) (env:=[.ref .sh 0 [] (.agg [eL x2.env.1.v.a]),.ref .sh 0 [] (ji x2.env.2.1.v)]) (us:=[]) (ws:=[Arg.arg (x2.env.1:(Rf (S1 LI))),Arg.arg (x2.env.2.1:(Rf Int))]) h11 xx (xD (uS (Enc.erase_enc (x2.env.1.v:(S1 LI)))) (xD (uS rfl) xx)) rfl [Enc.enc (v8:Int)] (zh h15 rfl rfl zI) (H.c35 _ _ _ _ Er9) H.g35 rfl rfl rfl rfl (gq (.nsq (zp rfl h (fun h=>?_) (fun h=>?_))))
     · refine .seq (rg (gm h5 fun h17=>gm h17 fun h4=>gq (.nsq (.ret ?_))))
       obtain rfl:=oi h
       exact rrA (zr h4) rfl
     refine .skip (.nbk (.nsq (rg (g1 8 (ji (w64 (x5 + 1))) h8 fun h18=>gm h18 fun h8=>gq (.nlp ?_)))))
     exact ih (w64 (x5 + 1)) _ ⟨h0,h1,h4,h7,h8⟩ h
   refine .exit (.esq (.elp (.ebk (.nsq (.seq (rg (g0 (ji (-1)) fun h4=>gq (.nsq (.ret ?_)))))))))
   obtain rfl:=oi h
   exact rrA (zr h4) rfl
def yb (F:Nat) (x1:LI) (x2:(Cl 35 Unit ((Rf (S1 LI))×(Rf Int)×Unit))):Option Int:=
 z6 F x1 x2 F 0
theorem zpS (H:zi4 D σ F) (x1:LI) (x2:(Cl 35 Unit ((Rf (S1 LI))×(Rf Int)×Unit))) (s:Nat→V) (hs:zu [(0,eL x1),(1,.fn 35 [] [.ref .sh 0 [] (.agg [eL x2.env.1.v.a]),.ref .sh 0 [] (ji x2.env.2.1.v)])] s) (h:yb F x1 x2=some r):Run D σ (zkV r) (.run zkQ []) s:=by
 unfold yb at h
 obtain ⟨h0,h1⟩:=hs
 refine .seq (rg (g0 (ji 0) fun h4=>gq (.nsq (.seq (.seq (rg (gm h0 fun h6=>gl x1 h6 fun h7=>g0 (ji 0) fun h8=>gq (.nsq (.block (.loop ?_))))))))))
 exact zc9 H x1 x2 F 0 _ ⟨h0,h1,h4,h7,h8⟩ h
end
def ziO (F:Nat):Ent:=ent 33 (fun (x:(LI×(Cl 35 Unit ((Rf (S1 LI))×(Rf Int)×Unit))×Unit))=>yb F x.1 x.2.1) (fun (r:Int)=>(Enc.enc (r:Int))) 0 false [(1,35)]
abbrev zlc (D:List V→Option V) (F:Nat):Prop:=∀ (x0:LI) (x1:(Cl 35 Unit ((Rf (S1 LI))×(Rf Int)×Unit))) r,yb F x0 x1=some r→D [Enc.enc x0,Arg.arg x1]=some (Enc.enc (r:Int))
theorem zp1 {F:Nat}:zlc (ziO F).den F:=fun x0 x1 _ h=>zS (x0,x1,()) h
theorem zoC (hF:zF Try.prog D σ) (H:zi4 D σ F):(ziO F).Ok Try.prog:=okZ (f:=33) Try.func33 fun ⟨x0,x1,_⟩ y hy=>cR hF Try.func33 c33s1 (zpS H x0 x1 _ ⟨rfl,rfl⟩ hy)
def znZ:AC:=(.cond (.t 17) .skip (.exit 0))
def zpI:AC:=(.cond (.t 23) (.seq (rr [jv 2 (.mov (.k (.sl .nl .s 0 []))),jv 3 (.mov kf)]) .ret) .skip)
def zss:AC:=(rr [jl 33 6,jm 34 8,jv 35 (.bin .shl (jn 1) (.t 34)),jv 36 (.bin .andNot (.t 33) (.t 35)),jz (.store .s (.t 6) (.t 36))])
def zrT:AC:=(.seq (.reg [.clr [31,32]] [jm 29 5,jm 30 8,jx 31 (.lit i0 1 [(0,0,.t 30)]),jx 32 (.app .s (.t 29) (.t 31)),jm 5 32] [.home 32 5]) zss)
def zsw:AC:=(.seq (rr [jl 24 6,jx 25 (.call (jf 34) [.t 24]),jm 26 7,jv 27 (.idx (.t 25) (.t 26) 1),jl 28 27,jm 8 28]) zrT)
def zqO:AC:=(.seq (.seq (rr [jm 22 7,jv 23 (.bin .lss (.t 22) (jn 0))]) zpI) zsw)
def znu:AC:=(.reg [.clr [6]] [jx 6 (.alloc i0),jz (.store .s (.t 6) (.t 37))] [])
def zop:AC:=(.seq (rr [jl 37 6]) znu)
def zpm:AC:=(.seq (.block 1 (.seq (rr [jl 18 6,jx 19 (.call (jf 34) [.t 18]),jv 20 (.fn 35 [] [.t 4,.t 6]),jx 21 (.call (jf 33) [.t 19,.t 20]),jm 7 21]) zqO)) zop)
def zi8:AC:=(.seq (.seq (rr [jl 16 6,jv 17 (.bin .neq (.t 16) (jn 0))]) znZ) zpm)
def zip:AC:=(.seq (.reg [] [jm 38 5,jm 2 38,jv 3 (.mov kt)] [.home 5 2]) .ret)
def zmn:AC:=(.cond (.t 11) (.seq (rr [jv 2 (.mov (.k (.sl .nl .s 0 []))),jv 3 (.mov kf)]) .ret) .skip)
def znH:AC:=(.block 0 (.loop zi8))
def zmf:AC:=(.seq (.seq (.reg [.clr [6]] [jv 14 (.load (.ag [.p]) (.t 4)),jx 15 (.call (jf 32) [.t 14]),jx 6 (.alloc i0),jz (.store .s (.t 6) (.t 15))] []) znH) zip)
def zmt:AC:=(.seq (rr [jv 5 (.mov (.k (.sl .nl .s 0 [])))]) zmf)
def znl:AC:=(.seq (.reg [.clr [4]] [jv 12 (.load (.ag [.s,.p]) (.t 1)),jx 13 (.call (jf 23) [.t 12]),jx 4 (.alloc (.agg [.sl .nl .s 0 []])),jz (.store (.ag [.p]) (.t 4) (.t 13))] []) zmt)
def zlJ:AC:=(.seq (.seq (rr [jv 9 (.load (.ag [.s,.p]) (.t 1)),jx 10 (.call (jf 21) [.t 9]),jv 11 (.un .not (.t 10))]) zmn) znl)
def A12:AC:=(.seq (.reg [.clr [1]] [jx 1 (.box (.t 0)),jv 2 (.mov (.k (.sl .nl .s 0 []))),jv 3 (.mov kf)] []) zlJ)
def zul:List An:=[⟨0,[.clr [1]],[],[],[]⟩,⟨3,[.clr [4]],[],[],[]⟩,⟨5,[.clr [6]],[],[],[]⟩,⟨11,[.clr [31,32]],[],[],[.home 32 5]⟩,⟨14,[.clr [6]],[],[],[]⟩,⟨15,[],[],[],[.home 5 2]⟩]
theorem c12:cq Try.prog Try.f12 zul=some A12:=by kernel_rfl
structure H12 (D:Den) (σ:Sig) (F:Nat):Prop where
 c21:C21 (D 21) F
 g21:σ 21=some (0,false)
 c23:C23 (D 23) F
 g23:σ 23=some (0,false)
 c32:C32 (D 32) F
 g32:σ 32=some (0,false)
 c34:C34 (D 34) F
 g34:σ 34=some (0,false)
 c33s1:zlc (D 33) F
 g33s1:σ 33=some (0,false)
abbrev R12 (r:(LI×Bool)):(Nat→V)→Prop:=RR Try.prog [.tmp 2,.tmp 3] 0 false (.tup [eL r.1,Enc.enc (r.2:Bool)])
section
variable {r:(LI×Bool)}
def xL (F:Nat) (r3:(S1 LI)) :Nat→(NL Int)→Int→Option (LI×Bool)
 | 0,_,_=>none
 | k + 1,x11,x12=>
   bif (x12 != 0) then
    (uH F x12).bind fun r19=>
    (yb F r19 (Cl.mk () ((Rf.mk r3:(Rf (S1 LI))),(Rf.mk x12:(Rf Int)),()):(Cl 35 Unit ((Rf (S1 LI))×(Rf Int)×Unit)))).bind fun r20=>
    bif decide (r20 < 0) then
     some ([],false)
    else
     (uH F x12).bind fun r21=>
     (idx r21 r20).bind fun v22=>
     (vL x11.list [v22]).bind fun ap23=>
     (WZ .i64 1 v22).bind fun q24=>
     (xL F r3 k) (.of ap23) (zY .i64 x12 q24)
   else
    some (x11.list,true)
theorem zhH (H:H12 D σ F) (r3:(S1 LI)) :∀ (k:Nat) (x11:(NL Int)) (x12:Int) (s:Nat→V),zu [(2,nI),(3,jb false),(4,.ref (.bx 4) 0 [] (.agg [eL r3.a])),(5,oI 5 [] x11),(6,.ref (.bx 6) 0 [] (ji x12))] s→xL F r3 k x11 x12=some r→Run D σ (R12 r) (.run zi8 [.lp zi8,.bk 0,.sq zip]) s:=by
 intro k
 induction k with
 | zero=>intro x11 x12 s _ h;exact nm h
 | succ k ih=>
   intro x11 x12 s hs h
   rw [xL] at h
   obtain ⟨h2,h3,h4,h5,h6⟩:=hs
   refine .seq (.seq (rg (g1 6 (ji x12) h6 fun h16=>g1 16 (jb (x12 != 0)) h16 fun h17=>gq (.nsq (zp h17 h (fun h=>?_) (fun h=>?_))))))
   · refine .skip (.nsq (.seq (.block (.seq (rg (g1 6 (ji x12) h6 fun h18=>?_))))))
     obtain ⟨r19,Er19,h⟩:=zc h
     refine gcF [Enc.enc (x12:Int)] (zh h18 rfl rfl zI) (H.c34 _ _ Er19) H.g34 (g2 4 6 (.fn 35 [] [.ref (.bx 4) 0 [] (.agg [eL r3.a]),.ref (.bx 6) 0 [] (ji x12)]) h4 h6 fun h20=>?_)
     obtain ⟨r20,Er20,h⟩:=zc h
     refine gcF [eL r19,Arg.arg ((Cl.mk () ((Rf.mk r3:(Rf (S1 LI))),(Rf.mk x12:(Rf Int)),()):(Cl 35 Unit ((Rf (S1 LI))×(Rf Int)×Unit))):(Cl 35 Unit ((Rf (S1 LI))×(Rf Int)×Unit)))] (zh (v:=eL r19) rfl rfl (Enc.erase_enc (r19:LI)) (zh h20 rfl (Jg xx (xD (uS (Enc.erase_enc (r3:(S1 LI)))) (xD (uS rfl) xx))) zI)) (H.c33s1 _ _ _ Er20) H.g33s1 (gm (rf (ji r20)) fun h7=>gq (.nsq (.seq (.seq (rg (gm h7 fun h22=>g1 22 (jb (decide (r20 < 0))) h22 fun h23=>gq (.nsq (zp h23 h (fun h=>?_) (fun h=>?_)))))))))
     · refine .seq (rg (g0 nI fun h2=>g0 (jb false) fun h3=>gq (.nsq (.ret ?_))))
       obtain rfl:=oi h
       exact rrB (zr h2) (zr h3) (wP (ZF (yp (vk (o:=(.nil:NL Int)) (t:=.nl)) (yp (wx (x:=(false:Bool))) wG))) (Xv (yz MC (yz rfl wI))))
     refine .skip (.nsq (.seq (rg (g1 6 (ji x12) h6 fun h24=>?_))))
     obtain ⟨r21,Er21,h⟩:=zc h
     refine gcF [Enc.enc (x12:Int)] (zh h24 rfl rfl zI) (H.c34 _ _ Er21) H.g34 (gm h7 fun h26=>?_)
     obtain ⟨v22,Ev22,h⟩:=zc h
     refine gv (.ref .sh 0 [] (ji v22)) (yV (t:=.sh) (lo:=0) (xs:=r21) rfl h26 Ev22 rfl rfl) fun h27=>g1 27 (ji v22) h27 fun h28=>gm h28 fun h8=>gq (.nsq (.seq (zA (zZ ?_))))
     refine ez [(2,_),(3,_),(4,_),(5,_),(6,_),(8,_),(31,_),(32,_)] ⟨za h2 rfl rfl,za h3 rfl mb,za h4 rfl (zi rfl (zH (zf me zn))),za h5 rfl (zo (r:=5) (p:=[]) rfl rfl),za h6 rfl (zi rfl mi),za h8 rfl mi,ze rfl,ze rfl⟩ ?_
     rintro s ⟨h2,h3,h4,h5,h6,h8,h31,h32⟩
     refine gv (oI 5 [] x11) (xQ h5 yG) fun h29=>gm h8 fun h30=>wA [(30,ji v22)] [Enc.enc (v22:Int)] h30 rfl rfl h31 ?_
     obtain ⟨ap23,Eap23,h⟩:=zc h
     refine XQ (q:=5) (p:=[]) (o:=(x11:NL Int)) (ys:=([v22]:LI)) (t2:=.at 31 []) (lo2:=0) h29 rfl rfl h32 (ZT (o:=(x11:NL Int)) Eap23 (by split <;> simp)) (fun s13 ha13=>gm (rf (oI 32 [] (.of ap23))) fun h5=>xo (y0 (r:=32) (x:=5) (v:=_) h5 rfl (fun s14 hz14=>?_)))
     refine ez [(2,nI),(3,jb false),(4,.ref (.bx 4) 0 [] (.agg [eL r3.a])),(5,oI 5 [] (.of ap23)),(6,.ref (.bx 6) 0 [] (ji x12)),(8,ji v22)] ⟨hz14 2 _ nI (show s13 2=nI from zR ha13 h2 rfl) rfl,hz14 3 _ _ (show s13 3=(jb false) from zR ha13 h3 mb) mb,hz14 4 _ _ (show s13 4=(.ref (.bx 4) 0 [] (.agg [eL r3.a])) from zR ha13 h4 (zi rfl (zH (zf me zn)))) (zi rfl (zH (zf me zn))),hz14 5 _ _ h5 (zo (r:=32) (p:=[]) rfl rfl),hz14 6 _ _ (show s13 6=(.ref (.bx 6) 0 [] (ji x12)) from zR ha13 h6 (zi rfl mi)) (zi rfl mi),hz14 8 _ _ (show s13 8=(ji v22) from zR ha13 h8 mi) mi⟩ ?_
     rintro s ⟨h2,h3,h4,h5,h6,h8⟩
     refine .nsq (rg (g1 6 (ji x12) h6 fun h33=>gm h8 fun h34=>?_))
     obtain ⟨q24,Eq24,h⟩:=zc h
     refine gv (ji q24) (YF rfl h34 Eq24) fun h35=>g2 33 35 (ji (zY .i64 x12 q24)) h33 h35 fun h36=>z5 (ji (zY .i64 x12 q24)) (zx h6 rfl) (zx h36 rfl) (xE (by first | rfl | simp [V.toks,V.tokss,Enc.toks_enc,zX])) (gz [(2,nI),(3,jb false),(4,.ref (.bx 4) 0 [] (.agg [eL r3.a])),(5,oI 5 [] (.of ap23)),(6,.ref (.bx 6) 0 [] (ji (zY .i64 x12 q24)))] ⟨zd h2 rfl,zd h3 rfl,zd h4 (zy rfl rfl (yx (zq uE rfl))),zd h5 (wS rfl rfl),zd h6 rfl⟩ ?_)
     rintro s ⟨h2,h3,h4,h5,h6⟩
     refine .nbk (.nsq (.seq (rg (g1 6 (ji (zY .i64 x12 q24)) h6 fun h37=>gq (.nsq (zA (zZ ?_)))))))
     refine ez [(2,_),(3,_),(4,_),(5,_),(6,_),(37,_)] ⟨za h2 rfl rfl,za h3 rfl mb,za h4 rfl (zi rfl (zH (zf me zn))),za h5 rfl (zo (r:=5) (p:=[]) rfl rfl),ze rfl,za h37 rfl mi⟩ ?_
     rintro s ⟨h2,h3,h4,h5,h6,h37⟩
     refine yR h6 (z5 (ji (zY .i64 x12 q24)) (zx rfl rfl) (zx h37 rfl) (xE (by first | rfl | simp [V.toks,V.tokss,Enc.toks_enc,zX])) (gz [(2,nI),(3,jb false),(4,.ref (.bx 4) 0 [] (.agg [eL r3.a])),(5,oI 5 [] (.of ap23)),(6,.ref (.bx 6) 0 [] (ji (zY .i64 x12 q24)))] ⟨zd h2 rfl,zd h3 rfl,zd h4 (zy rfl rfl (yx (zq uE rfl))),zd h5 (wS rfl rfl),zd rfl rfl⟩ ?_))
     rintro s ⟨h2,h3,h4,h5,h6⟩
     refine .nlp ?_
     exact ih (.of ap23) (zY .i64 x12 q24) _ ⟨h2,h3,h4,h5,h6⟩ h
   refine .exit (.esq (.elp (.ebk (.nsq (.seq (rg (gv (oI 5 [] x11) (xQ h5 yG) fun h38=>gv (oI 5 [] x11) (xQ h38 yG) fun h2=>g0 (jb true) fun h3=>xo (y0 (r:=5) (x:=2) (v:=_) h2 yG (fun s16 hz16=>?_)))))))))
   refine ez [(2,oI 2 [] x11),(3,jb true)] ⟨hz16 2 _ _ h2 (zo (r:=5) (p:=[]) rfl rfl),hz16 3 _ _ h3 mb⟩ ?_
   rintro s ⟨h2,h3⟩
   refine .nsq (.ret ?_)
   obtain rfl:=oi h
   exact rrB (zr h2) (zr h3) (wP (ZF (yp (vk (o:=x11)) (yp (wx (x:=(true:Bool))) wG))) (Xv (yz (xI rfl) (yz rfl wI))))
def yZ (F:Nat) (x1:GR):Option (LI×Bool):=
 (vy F x1).bind fun r2=>
 bif (!r2) then
  some ([],false)
 else
  (ZO F x1).bind fun r3=>
  (xr F r3).bind fun r4=>
  xL F r3 F .nil r4
theorem t12 (H:H12 D σ F) (x1:GR) (s:Nat→V) (hs:zu [(0,gV x1)] s) (h:yZ F x1=some r):Run D σ (R12 r) (.run A12 []) s:=by
 unfold yZ at h
 have h0:=hs
 refine .seq (zA (zZ ?_))
 refine ez [(0,_),(1,_)] ⟨za h0 rfl mIE,ze rfl⟩ ?_
 rintro s ⟨h0,h1⟩
 refine xU (gV x1) (zx h0 rfl) h1 rfl (g0 nI fun h2=>g0 (jb false) fun h3=>gq (.nsq (.seq (.seq (rg (g1 1 (gV x1) (rf (bG 1 x1)) fun h9=>?_))))))
 obtain ⟨r2,Er2,h⟩:=zc h
 refine gcF [Enc.enc (x1:GR)] (zh h9 rfl (Enc.erase_enc (x1:GR)) zI) (H.c21 _ _ Er2) H.g21 (g1 10 (jb (!r2)) (rf (jb r2)) fun h11=>gq (.nsq (zp h11 h (fun h=>?_) (fun h=>?_))))
 · refine .seq (rg (g0 nI fun h2=>g0 (jb false) fun h3=>gq (.nsq (.ret ?_))))
   obtain rfl:=oi h
   exact rrB (zr h2) (zr h3) (wP (ZF (yp (vk (o:=(.nil:NL Int)) (t:=.nl)) (yp (wx (x:=(false:Bool))) wG))) (Xv (yz MC (yz rfl wI))))
 refine .skip (.nsq (.seq (zA (zZ ?_))))
 refine ez [(1,_),(2,_),(3,_),(4,_)] ⟨za rfl rfl (zi rfl mIE),za h2 rfl rfl,za h3 rfl mb,ze rfl⟩ ?_
 rintro s ⟨h1,h2,h3,h4⟩
 refine g1 1 (gV x1) h1 fun h12=>?_
 obtain ⟨r3,Er3,h⟩:=zc h
 refine gcF [Enc.enc (x1:GR)] (zh h12 rfl (Enc.erase_enc (x1:GR)) zI) (H.c23 _ _ Er3) H.g23 (yR h4 (z5 (.agg [eL r3.a]) (zx rfl rfl) (zx rfl rfl) (xE (by first | rfl | simp [V.toks,V.tokss,Enc.toks_enc,zX])) (gz [(2,nI),(3,jb false),(4,.ref (.bx 4) 0 [] (.agg [eL r3.a]))] ⟨zd h2 rfl,zd h3 rfl,zd rfl rfl⟩ ?_)))
 rintro s ⟨h2,h3,h4⟩
 refine .nsq (.seq (rg (g0 nI fun h5=>gq (.nsq (.seq (.seq (zA (zZ ?_))))))))
 refine ez [(2,_),(3,_),(4,_),(5,_),(6,_)] ⟨za h2 rfl rfl,za h3 rfl mb,za h4 rfl (zi rfl (zH (zf me zn))),za h5 rfl rfl,ze rfl⟩ ?_
 rintro s ⟨h2,h3,h4,h5,h6⟩
 refine g1 4 (.agg [eL r3.a]) h4 fun h14=>?_
 obtain ⟨r4,Er4,h⟩:=zc h
 refine gcF [Enc.enc (r3:(S1 LI))] (zh h14 rfl (Enc.erase_enc (r3:(S1 LI))) zI) (H.c32 _ _ Er4) H.g32 (yR h6 (z5 (ji r4) (zx rfl rfl) (zx rfl rfl) (xE (by first | rfl | simp [V.toks,V.tokss,Enc.toks_enc,zX])) (gz [(2,nI),(3,jb false),(4,.ref (.bx 4) 0 [] (.agg [eL r3.a])),(5,nI),(6,.ref (.bx 6) 0 [] (ji r4))] ⟨zd h2 rfl,zd h3 rfl,zd h4 (zy rfl rfl (yx (zq uE rfl))),zd h5 rfl,zd rfl rfl⟩ ?_)))
 rintro s ⟨h2,h3,h4,h5,h6⟩
 refine .nsq (.block (.loop ?_))
 exact zhH H r3 F .nil r4 _ ⟨h2,h3,h4,h5,h6⟩ h
end
def e12 (F:Nat):Ent:=ent 12 (fun (x:(GR×Unit))=>yZ F x.1) (fun (r:(LI×Bool))=>(.tup [eL r.1,Enc.enc (r.2:Bool)])) 0 false []
abbrev C12 (D:List V→Option V) (F:Nat):Prop:=∀ (x0:GR) r,yZ F x0=some r→D [Enc.enc x0]=some (.tup [eL r.1,Enc.enc (r.2:Bool)])
theorem p12 {F:Nat}:C12 (e12 F).den F:=fun x0 _ h=>zS (x0,()) h
theorem o12 (hF:zF Try.prog D σ) (H:H12 D σ F):(e12 F).Ok Try.prog:=okZ (f:=12) Try.func12 fun ⟨x0,_⟩ y hy=>cR hF Try.func12 c12 (t12 H x0 _ rfl hy)
def zsr:AC:=(.cond (.t 17) .skip (.exit 0))
def zsa:AC:=(.cond (.t 26) (.reg [.clr [32,33]] [jm 27 7,jm 28 8,jm 29 9,jv 30 (.idx (.t 28) (.t 29) 1),jl 31 30,jx 32 (.lit i0 1 [(0,0,.t 31)]),jx 33 (.app .s (.t 27) (.t 32)),jm 7 33] [.home 33 7]) .skip)
def zlh:AC:=(rr [jm 18 9,jv 19 (.bin .add (.t 18) (jn 1)),jm 9 19])
def zrg:AC:=(.seq (.block 1 (.seq (rr [jm 20 1,jm 21 8,jm 22 9,jv 23 (.idx (.t 21) (.t 22) 1),jl 24 23,jx 25 (.call (jf 38) [.t 20,.t 24]),jv 26 (.un .not (.t 25))]) zsa)) zlh)
def N7:AC:=(.seq (.seq (rr [jm 14 9,jm 15 8,jk 16 15,jv 17 (.bin .lss (.t 14) (.t 16))]) zsr) zrg)
def zeO:AC:=(.seq (.reg [] [jm 34 7,jm 6 34] [.home 7 6]) .ret)
def zl3:AC:=(.block 0 (.loop N7))
def zsF:AC:=(.seq (.seq (rr [jv 9 (.mov (jn 0))]) zl3) zeO)
def zsb:AC:=(.seq (rr [jv 11 (.load (.ag [.s,.p]) (.t 3)),jm 12 2,jx 13 (.call (jf 68) [.t 11,.t 12]),jm 8 13]) zsF)
def zsQ:AC:=(.seq (.reg [.clr [10]] [jx 10 (.lit i0 0 []),jm 7 10] [.home 10 7]) zsb)
def A40:AC:=(.seq (.reg [.clr [3]] [jx 3 (.box (.t 0)),jv 6 (.mov (.k (.sl .nl .s 0 [])))] []) zsQ)
def ztN:List An:=[⟨0,[.clr [3]],[],[],[]⟩,⟨1,[.clr [10]],[],[],[.home 10 7]⟩,⟨7,[.clr [32,33]],[],[],[.home 33 7]⟩,⟨8,[],[],[],[.home 7 6]⟩]
theorem c40:cq Try.prog Try.f40 ztN=some A40:=by kernel_rfl
structure H40 (D:Den) (σ:Sig) (F:Nat):Prop where
 c68:C68 (D 68) F
 g68:σ 68=some (0,false)
 c38:C38 (D 38) F
 g38:σ 38=some (0,false)
abbrev R40 (r:LI):(Nat→V)→Prop:=RR Try.prog [.tmp 6] 0 false (eL r)
section
variable {r:LI}
def YM (F:Nat) (x2:LI) (r4:LI) (x13:Int) (c1:LI→Int→Option LI) (x25:LI):Option LI:=
 c1 x25 (w64 (x13 + 1))
theorem zbP (H:H40 D σ F) (x2:LI) (r4:LI) (x13:Int) (c1:LI→Int→Option LI) (Hc1:∀ (x12:LI) (x13:Int) (s:Nat→V),zu [(1,eL x2),(6,nI),(7,oI 7 [] (.of x12)),(8,eL r4),(9,ji x13)] s→c1 x12 x13=some r→Run D σ (R40 r) (.run N7 [.lp N7,.bk 0,.sq zeO]) s) (x25:LI) (s:Nat→V) (hs:zu [(1,eL x2),(6,nI),(7,oI 7 [] (.of x25)),(8,eL r4),(9,ji x13)] s) (h:YM F x2 r4 x13 c1 x25=some r):Run D σ (R40 r) (.nrm [.bk 1,.sq zlh,.lp N7,.bk 0,.sq zeO]) s:=by
 unfold YM at h
 obtain ⟨h1,h6,h7,h8,h9⟩:=hs
 refine .nbk (.nsq (rg (gm h9 fun h18=>g1 18 (ji (w64 (x13 + 1))) h18 fun h19=>gm h19 fun h9=>gq (.nlp ?_))))
 exact Hc1 x25 (w64 (x13 + 1)) _ ⟨h1,h6,h7,h8,h9⟩ h
def wX (F:Nat) (x2:LI) (r4:LI) :Nat→LI→Int→Option LI
 | 0,_,_=>none
 | k + 1,x12,x13=>
   bif decide (x13 < (r4.length:Int)) then
    (idx r4 x13).bind fun v21=>
    (ul F x2 v21).bind fun r22=>
    bif (!r22) then
     (idx r4 x13).bind fun v26=>
     (vL x12 [v26]).bind fun ap27=>
     YM F x2 r4 x13 (wX F x2 r4 k) ap27
    else
     YM F x2 r4 x13 (wX F x2 r4 k) x12
   else
    some x12
theorem zis (H:H40 D σ F) (x2:LI) (r4:LI) :∀ (k:Nat) (x12:LI) (x13:Int) (s:Nat→V),zu [(1,eL x2),(6,nI),(7,oI 7 [] (.of x12)),(8,eL r4),(9,ji x13)] s→wX F x2 r4 k x12 x13=some r→Run D σ (R40 r) (.run N7 [.lp N7,.bk 0,.sq zeO]) s:=by
 intro k
 induction k with
 | zero=>intro x12 x13 s _ h;exact nm h
 | succ k ih=>
   intro x12 x13 s hs h
   rw [wX] at h
   obtain ⟨h1,h6,h7,h8,h9⟩:=hs
   refine .seq (.seq (rg (gm h9 fun h14=>gm h8 fun h15=>gl r4 h15 fun h16=>g2 14 16 (jb (decide (x13 < (r4.length:Int)))) h14 h16 fun h17=>gq (.nsq (zp h17 h (fun h=>?_) (fun h=>?_))))))
   · refine .skip (.nsq (.seq (.block (.seq (rg (gm h1 fun h20=>gm h8 fun h21=>gm h9 fun h22=>?_))))))
     obtain ⟨v21,Ev21,h⟩:=zc h
     refine gv (.ref .sh 0 [] (ji v21)) (yV (t:=.sh) (lo:=0) (xs:=r4) h21 h22 Ev21 rfl rfl) fun h23=>g1 23 (ji v21) h23 fun h24=>?_
     obtain ⟨r22,Er22,h⟩:=zc h
     refine gcF [eL x2,Enc.enc (v21:Int)] (zh h20 rfl (Enc.erase_enc (x2:LI)) (zh h24 rfl rfl zI)) (H.c38 _ _ _ Er22) H.g38 (g1 25 (jb (!r22)) (rf (jb r22)) fun h26=>gq (.nsq (zp h26 h (fun h=>?_) (fun h=>?_))))
     · refine zA (zZ ?_)
       refine ez [(1,_),(6,_),(7,_),(8,_),(9,_),(32,_),(33,_)] ⟨za h1 rfl me,za h6 rfl rfl,za h7 rfl (zo (r:=7) (p:=[]) rfl rfl),za h8 rfl me,za h9 rfl mi,ze rfl,ze rfl⟩ ?_
       rintro s ⟨h1,h6,h7,h8,h9,h32,h33⟩
       refine gm h7 fun h27=>gm h8 fun h28=>gm h9 fun h29=>?_
       obtain ⟨v26,Ev26,h⟩:=zc h
       refine gv (.ref .sh 0 [] (ji v26)) (yV (t:=.sh) (lo:=0) (xs:=r4) h28 h29 Ev26 rfl rfl) fun h30=>g1 30 (ji v26) h30 fun h31=>wA [(31,ji v26)] [Enc.enc (v26:Int)] h31 rfl rfl h32 ?_
       obtain ⟨ap27,Eap27,h⟩:=zc h
       refine XQ (q:=7) (p:=[]) (o:=.of (x12:LI)) (ys:=([v26]:LI)) (t2:=.at 32 []) (lo2:=0) h27 rfl rfl h33 (ZT (o:=.of (x12:LI)) Eap27 trivial) (fun s20 ha20=>gm (rf (oI 33 [] (.of ap27))) fun h7=>xo (y0 (r:=33) (x:=7) (v:=_) h7 rfl (fun s21 hz21=>?_)))
       refine ez [(1,eL x2),(6,nI),(7,oI 7 [] (.of ap27)),(8,eL r4),(9,ji x13)] ⟨hz21 1 _ _ (show s20 1=(eL x2) from zR ha20 h1 me) me,hz21 6 _ nI (show s20 6=nI from zR ha20 h6 rfl) rfl,hz21 7 _ _ h7 (zo (r:=33) (p:=[]) rfl rfl),hz21 8 _ _ (show s20 8=(eL r4) from zR ha20 h8 me) me,hz21 9 _ _ (show s20 9=(ji x13) from zR ha20 h9 mi) mi⟩ ?_
       rintro s ⟨h1,h6,h7,h8,h9⟩
       exact zbP H x2 r4 x13 (wX F x2 r4 k) ih ap27 _ ⟨h1,h6,h7,h8,h9⟩ h
     refine .skip ?_
     exact zbP H x2 r4 x13 (wX F x2 r4 k) ih x12 _ ⟨h1,h6,h7,h8,h9⟩ h
   refine .exit (.esq (.elp (.ebk (.nsq (.seq (rg (gm h7 fun h34=>gm h34 fun h6=>xo (y0 (r:=7) (x:=6) (v:=_) h6 rfl (fun s22 hz22=>?_)))))))))
   refine ez [(6,oI 6 [] (.of x12))] (hz22 6 _ _ h6 (zo (r:=7) (p:=[]) rfl rfl)) ?_
   rintro s h6
   refine .nsq (.ret ?_)
   obtain rfl:=oi h
   exact rrA (zr h6) (wP (vk (o:=.of x12)) (xI rfl))
def Y1 (F:Nat) (x1:GR) (x2:LI) (x3:Int):Option LI:=
 (wi F x1 x3).bind fun r4=>
 wX F x2 r4 F [] 0
theorem t40 (H:H40 D σ F) (x1:GR) (x2:LI) (x3:Int) (s:Nat→V) (hs:zu [(0,gV x1),(1,eL x2),(2,ji x3)] s) (h:Y1 F x1 x2 x3=some r):Run D σ (R40 r) (.run A40 []) s:=by
 unfold Y1 at h
 obtain ⟨h0,h1,h2⟩:=hs
 refine .seq (zA (zZ ?_))
 refine ez [(0,_),(1,_),(2,_),(3,_)] ⟨za h0 rfl mIE,za h1 rfl me,za h2 rfl mi,ze rfl⟩ ?_
 rintro s ⟨h0,h1,h2,h3⟩
 refine xU (gV x1) (zx h0 rfl) h3 rfl (g0 nI fun h6=>gq (.nsq (.seq (zA (zZ ?_)))))
 refine ez [(1,_),(2,_),(3,_),(6,_),(10,_)] ⟨za h1 rfl me,za h2 rfl mi,za rfl rfl (zi rfl mIE),za h6 rfl rfl,ze rfl⟩ ?_
 rintro s ⟨h1,h2,h3,h6,h10⟩
 refine wA [] [] trivial rfl rfl h10 (gm (rf (oI 10 [] (.of []))) fun h7=>xo (y0 (r:=10) (x:=7) (v:=_) h7 rfl (fun s3 hz3=>?_)))
 refine ez [(1,eL x2),(2,ji x3),(3,bG 3 x1),(6,nI),(7,oI 7 [] (.of []))] ⟨hz3 1 _ _ h1 me,hz3 2 _ _ h2 mi,hz3 3 _ _ h3 (zi rfl mIE),hz3 6 _ _ h6 rfl,hz3 7 _ _ h7 (zo (r:=10) (p:=[]) rfl rfl)⟩ ?_
 rintro s ⟨h1,h2,h3,h6,h7⟩
 refine .nsq (.seq (rg (g1 3 (gV x1) h3 fun h11=>gm h2 fun h12=>?_)))
 obtain ⟨r4,Er4,h⟩:=zc h
 refine gcF [Enc.enc (x1:GR),Enc.enc (x3:Int)] (zh h11 rfl (Enc.erase_enc (x1:GR)) (zh h12 rfl rfl zI)) (H.c68 _ _ _ Er4) H.g68 (gm (rf (eL r4)) fun h8=>gq (.nsq (.seq (.seq (rg (g0 (ji 0) fun h9=>gq (.nsq (.block (.loop ?_)))))))))
 exact zis H x2 r4 F [] 0 _ ⟨h1,h6,h7,h8,h9⟩ h
end
def e40 (F:Nat):Ent:=ent 40 (fun (x:(GR×LI×Int×Unit))=>Y1 F x.1 x.2.1 x.2.2.1) (fun (r:LI)=>(eL r)) 0 false []
abbrev C40 (D:List V→Option V) (F:Nat):Prop:=∀ (x0:GR) (x1:LI) (x2:Int) r,Y1 F x0 x1 x2=some r→D [Enc.enc x0,Enc.enc x1,Enc.enc x2]=some (eL r)
theorem p40 {F:Nat}:C40 (e40 F).den F:=fun x0 x1 x2 _ h=>zS (x0,x1,x2,()) h
theorem o40 (hF:zF Try.prog D σ) (H:H40 D σ F):(e40 F).Ok Try.prog:=okZ (f:=40) Try.func40 fun ⟨x0,x1,x2,_⟩ y hy=>cR hF Try.func40 c40 (t40 H x0 x1 x2 _ ⟨rfl,rfl,rfl⟩ hy)
def zog:AC:=(.cond (.t 10) .skip (.exit 0))
def zoO:AC:=(.cond (.t 18) .skip (.exit 2))
def zo7:AC:=(.cond (.t 31) (.seq (rr [jv 4 (.mov kf)]) .ret) .skip)
def zsZ:AC:=(rr [jm 19 6,jv 20 (.bin .add (.t 19) (jn 1)),jm 6 20])
def zpr:AC:=(.seq (.block 3 (.seq (rr [jv 21 (.load (.ag [.s,.p]) (.t 2)),jm 22 1,jm 23 5,jv 24 (.idx (.t 22) (.t 23) 1),jl 25 24,jm 26 1,jm 27 6,jv 28 (.idx (.t 26) (.t 27) 1),jl 29 28,jx 30 (.call (jf 67) [.t 21,.t 25,.t 29]),jv 31 (.un .not (.t 30))]) zo7)) zsZ)
def ziP:AC:=(.seq (.seq (rr [jm 15 6,jm 16 1,jk 17 16,jv 18 (.bin .lss (.t 15) (.t 17))]) zoO) zpr)
def zs4:AC:=(.block 2 (.loop ziP))
def zjc:AC:=(rr [jm 11 5,jv 12 (.bin .add (.t 11) (jn 1)),jm 5 12])
def zsm:AC:=(.seq (.block 1 (.seq (rr [jm 13 5,jv 14 (.bin .add (.t 13) (jn 1)),jm 6 14]) zs4)) zjc)
def N9:AC:=(.seq (.seq (rr [jm 7 5,jm 8 1,jk 9 8,jv 10 (.bin .lss (.t 7) (.t 9))]) zog) zsm)
def za1:AC:=(.seq (rr [jv 4 (.mov kt)]) .ret)
def znR:AC:=(.block 0 (.loop N9))
def zlM:AC:=(.seq (.seq (rr [jv 5 (.mov (jn 0))]) znR) za1)
def A39:AC:=(.seq (.reg [.clr [2]] [jx 2 (.box (.t 0)),jv 4 (.mov kf)] []) zlM)
def zuQ:List An:=[⟨0,[.clr [2]],[],[],[]⟩]
theorem c39:cq Try.prog Try.f39 zuQ=some A39:=by kernel_rfl
structure H39 (D:Den) (σ:Sig) (F:Nat):Prop where
 c67:C67 (D 67) F
 g67:σ 67=some (0,false)
abbrev R39 (r:Bool):(Nat→V)→Prop:=RR Try.prog [.tmp 4] 0 false (Enc.enc (r:Bool))
section
variable {r:Bool}
def vw (F:Nat) (x2:LI) (x1:GR) (x13:Int) (c1:Int→Option Bool):Nat→Int→Option Bool
 | 0,_=>none
 | k + 1,x27=>
   bif decide (x27 < (x2.length:Int)) then
    (idx x2 x13).bind fun v31=>
    (idx x2 x27).bind fun v32=>
    (ZY F x1 v31 v32).bind fun r33=>
    bif (!r33) then
     some false
    else
     (vw F x2 x1 x13 c1 k) (w64 (x27 + 1))
   else
    c1 (w64 (x13 + 1))
theorem zgK (H:H39 D σ F) (x2:LI) (x1:GR) (x13:Int) (c1:Int→Option Bool) (Hc1:∀ (x13:Int) (s:Nat→V),zu [(1,eL x2),(2,bG 2 x1),(4,jb false),(5,ji x13)] s→c1 x13=some r→Run D σ (R39 r) (.run N9 [.lp N9,.bk 0,.sq za1]) s):∀ (k:Nat) (x27:Int) (s:Nat→V),zu [(1,eL x2),(2,bG 2 x1),(4,jb false),(5,ji x13),(6,ji x27)] s→vw F x2 x1 x13 c1 k x27=some r→Run D σ (R39 r) (.run ziP [.lp ziP,.bk 2,.bk 1,.sq zjc,.lp N9,.bk 0,.sq za1]) s:=by
 intro k
 induction k with
 | zero=>intro x27 s _ h;exact nm h
 | succ k ih=>
   intro x27 s hs h
   rw [vw] at h
   obtain ⟨h1,h2,h4,h5,h6⟩:=hs
   refine .seq (.seq (rg (gm h6 fun h15=>gm h1 fun h16=>gl x2 h16 fun h17=>g2 15 17 (jb (decide (x27 < (x2.length:Int)))) h15 h17 fun h18=>gq (.nsq (zp h18 h (fun h=>?_) (fun h=>?_))))))
   · refine .skip (.nsq (.seq (.block (.seq (rg (g1 2 (gV x1) h2 fun h21=>gm h1 fun h22=>gm h5 fun h23=>?_))))))
     obtain ⟨v31,Ev31,h⟩:=zc h
     refine gv (.ref .sh 0 [] (ji v31)) (yV (t:=.sh) (lo:=0) (xs:=x2) h22 h23 Ev31 rfl rfl) fun h24=>g1 24 (ji v31) h24 fun h25=>gm h1 fun h26=>gm h6 fun h27=>?_
     obtain ⟨v32,Ev32,h⟩:=zc h
     refine gv (.ref .sh 0 [] (ji v32)) (yV (t:=.sh) (lo:=0) (xs:=x2) h26 h27 Ev32 rfl rfl) fun h28=>g1 28 (ji v32) h28 fun h29=>?_
     obtain ⟨r33,Er33,h⟩:=zc h
     refine gcF [Enc.enc (x1:GR),Enc.enc (v31:Int),Enc.enc (v32:Int)] (zh h21 rfl (Enc.erase_enc (x1:GR)) (zh h25 rfl rfl (zh h29 rfl rfl zI))) (H.c67 _ _ _ _ Er33) H.g67 (g1 30 (jb (!r33)) (rf (jb r33)) fun h31=>gq (.nsq (zp h31 h (fun h=>?_) (fun h=>?_))))
     · refine .seq (rg (g0 (jb false) fun h4=>gq (.nsq (.ret ?_))))
       obtain rfl:=oi h
       exact rrA (zr h4) rfl
     refine .skip (.nbk (.nsq (rg (gm h6 fun h19=>g1 19 (ji (w64 (x27 + 1))) h19 fun h20=>gm h20 fun h6=>gq (.nlp ?_)))))
     exact ih (w64 (x27 + 1)) _ ⟨h1,h2,h4,h5,h6⟩ h
   refine .exit (.esq (.elp (.ebk (.nbk (.nsq (rg (gm h5 fun h11=>g1 11 (ji (w64 (x13 + 1))) h11 fun h12=>gm h12 fun h5=>gq (.nlp ?_))))))))
   exact Hc1 (w64 (x13 + 1)) _ ⟨h1,h2,h4,h5⟩ h
def xT (F:Nat) (x2:LI) (x1:GR) :Nat→Int→Option Bool
 | 0,_=>none
 | k + 1,x13=>
   bif decide (x13 < (x2.length:Int)) then
    vw F x2 x1 x13 (xT F x2 x1 k) F (w64 (x13 + 1))
   else
    some true
theorem zho (H:H39 D σ F) (x2:LI) (x1:GR) :∀ (k:Nat) (x13:Int) (s:Nat→V),zu [(1,eL x2),(2,bG 2 x1),(4,jb false),(5,ji x13)] s→xT F x2 x1 k x13=some r→Run D σ (R39 r) (.run N9 [.lp N9,.bk 0,.sq za1]) s:=by
 intro k
 induction k with
 | zero=>intro x13 s _ h;exact nm h
 | succ k ih=>
   intro x13 s hs h
   rw [xT] at h
   obtain ⟨h1,h2,h4,h5⟩:=hs
   refine .seq (.seq (rg (gm h5 fun h7=>gm h1 fun h8=>gl x2 h8 fun h9=>g2 7 9 (jb (decide (x13 < (x2.length:Int)))) h7 h9 fun h10=>gq (.nsq (zp h10 h (fun h=>?_) (fun h=>?_))))))
   · refine .skip (.nsq (.seq (.block (.seq (rg (gm h5 fun h13=>g1 13 (ji (w64 (x13 + 1))) h13 fun h14=>gm h14 fun h6=>gq (.nsq (.block (.loop ?_)))))))))
     exact zgK H x2 x1 x13 (xT F x2 x1 k) ih F (w64 (x13 + 1)) _ ⟨h1,h2,h4,h5,h6⟩ h
   refine .exit (.esq (.elp (.ebk (.nsq (.seq (rg (g0 (jb true) fun h4=>gq (.nsq (.ret ?_)))))))))
   obtain rfl:=oi h
   exact rrA (zr h4) rfl
def Ye (F:Nat) (x1:GR) (x2:LI):Option Bool:=
 xT F x2 x1 F 0
theorem t39 (H:H39 D σ F) (x1:GR) (x2:LI) (s:Nat→V) (hs:zu [(0,gV x1),(1,eL x2)] s) (h:Ye F x1 x2=some r):Run D σ (R39 r) (.run A39 []) s:=by
 unfold Ye at h
 obtain ⟨h0,h1⟩:=hs
 refine .seq (zA (zZ ?_))
 refine ez [(0,_),(1,_),(2,_)] ⟨za h0 rfl mIE,za h1 rfl me,ze rfl⟩ ?_
 rintro s ⟨h0,h1,h2⟩
 refine xU (gV x1) (zx h0 rfl) h2 rfl (g0 (jb false) fun h4=>gq (.nsq (.seq (.seq (rg (g0 (ji 0) fun h5=>gq (.nsq (.block (.loop ?_)))))))))
 exact zho H x2 x1 F 0 _ ⟨h1,rfl,h4,h5⟩ h
end
def e39 (F:Nat):Ent:=ent 39 (fun (x:(GR×LI×Unit))=>Ye F x.1 x.2.1) (fun (r:Bool)=>(Enc.enc (r:Bool))) 0 false []
abbrev C39 (D:List V→Option V) (F:Nat):Prop:=∀ (x0:GR) (x1:LI) r,Ye F x0 x1=some r→D [Enc.enc x0,Enc.enc x1]=some (Enc.enc (r:Bool))
theorem p39 {F:Nat}:C39 (e39 F).den F:=fun x0 x1 _ h=>zS (x0,x1,()) h
theorem o39 (hF:zF Try.prog D σ) (H:H39 D σ F):(e39 F).Ok Try.prog:=okZ (f:=39) Try.func39 fun ⟨x0,x1,_⟩ y hy=>cR hF Try.func39 c39 (t39 H x0 x1 _ ⟨rfl,rfl⟩ hy)
end Go.Zq
