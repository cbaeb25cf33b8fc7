/- Functions of the program as typed functions, and that the machine runs as they say (part 3). No further condition. -/
import Derived.Test.YtkmhlpopclahcacK4
import Derived.Test.YtkmhlpopclahcacKC
import Derived.Test.YtkmhlpopclahcacProg
import Derived.Test.YtkmhlpopclahcacChecked
import Derived.KernelRfl
import Derived.Test.YtkmhlpopclahcacG2
set_option linter.unusedVariables false
set_option linter.unusedSimpArgs false
namespace Go.Zq
open Go.Proofs Go.Shelf
variable {D:Den} {σ:Sig} {F:Nat}
def zpL:AC:=(.cond (.t 14) (.seq (rr [jv 4 (.mov (.k (.sl .nl .s 0 []))),jv 5 (.mov kf)]) .ret) .skip)
def zsK:AC:=(.seq (rr [jv 15 (.load (.ag [.s,.p]) (.t 2)),jx 16 (.call (jf 28) [.t 15]),jm 17 1,jx 18 (.call (jf 29) [.t 16,.t 17]),jm 4 18,jv 5 (.mov kt)]) .ret)
def zvX:AC:=(.seq (.seq (rr [jv 6 (.load (.ag [.s,.p]) (.t 2)),jx 7 (.call (jf 23) [.t 6]),jv 8 (.un .not (.t 7)),jm 9 8,jg 10 9 false (.load (.ag [.s,.p]) (.t 2)),jg 11 9 false (.mov (.t 1)),.mk (some 12) (some (9,false)) false (.call (jf 24) [.t 10,.t 11]),jg 13 9 false (.un .not (.t 12)),jv 14 (.pick (.t 9) kt (.t 13))]) zpL) zsK)
def A8:AC:=(.seq (.reg [.clr [2]] [jx 2 (.box (.t 0)),jv 4 (.mov (.k (.sl .nl .s 0 []))),jv 5 (.mov kf)] []) zvX)
def an8:List An:=[⟨0,[.clr [2]],[],[],[]⟩]
theorem c8:cq Try.prog Try.f8 an8=some A8:=by kernel_rfl
structure H8 (D:Den) (σ:Sig) (F:Nat):Prop where
 c23:C23 (D 23) F
 g23:σ 23=some (0,false)
 c24:C24 (D 24) F
 g24:σ 24=some (0,false)
 c28:C28 (D 28) F
 g28:σ 28=some (0,false)
 c29:C29 (D 29) F
 g29:σ 29=some (0,false)
abbrev R8 (r:(LI×Bool)):(Nat→V)→Prop:=RR Try.prog [.tmp 4,.tmp 5] 0 true (.tup [eL r.1,Enc.enc (r.2:Bool)])
section
variable {r:(LI×Bool)}
def Y7 (F:Nat) (x2:LI) (x1:GR)  (x5:Bool):Option (LI×Bool):=
 bif x5 then
  some ([],false)
 else
  (vw F x1).bind fun r6=>
  (wT F r6 x2).bind fun r7=>
  some (r7,true)
theorem ze2 (H:H8 D σ F) (x2:LI) (x1:GR)  (x5:Bool) (s:Nat→V) (hs:zk [(1,eL x2),(2,bG 2 x1),(4,nI),(5,jb false),(14,jb x5)] s) (h:Y7 F x2 x1  x5=some r):Run D σ (R8 r) (.nrm [.sq zpL,.sq zsK]) s:=by
 unfold Y7 at h
 obtain ⟨h1,h2,h4,h5,h14⟩:=hs
 refine .nsq (zg h14 h (fun h=>?_) (fun h=>?_))
 · refine .seq (rg (g0 nI fun h4=>g0 (jb false) fun h5=>gq (.nsq (.ret ?_))))
   obtain rfl:=oi h
   exact rrB (zf h4) (zf h5) (xS (wH (zP (wl (o:=(.nil:NL Int)) (t:=.nl)) (zP (yz (x:=(false:Bool))) xA))))
 refine .skip (.nsq (.seq (rg (g1 2 (gV x1) h2 fun h15=>?_))))
 obtain ⟨r6,Er6,h⟩:=bind_some h
 refine zy (m:=0) (al:=false) (r:=Enc.enc (r6:(S1 LI))) [Enc.enc (x1:GR)] (zc (v:=gV x1) h15 rfl (Enc.erase_enc (x1:GR)) zp) (H.c28 _ _ Er6) H.g28 rfl rfl rfl rfl (gm h1 fun h17=>?_)
 obtain ⟨r7,Er7,h⟩:=bind_some h
 refine zy (m:=0) (al:=false) (r:=eL r7) [Enc.enc (r6:(S1 LI)),eL x2] (zc (v:=.agg [eL r6.a]) rfl rfl (Enc.erase_enc (r6:(S1 LI))) (zc (v:=eL x2) h17 rfl (Enc.erase_enc (x2:LI)) zp)) (H.c29 _ _ _ Er7) H.g29 rfl rfl rfl rfl (gm (rf (eL r7)) fun h4=>g0 (jb true) fun h5=>gq (.nsq (.ret ?_)))
 obtain rfl:=oi h
 exact rrB (zf h4) (zf h5) (xS (wH (zP (yz (x:=(r7:LI))) (zP (yz (x:=(true:Bool))) xA))))
def YY (F:Nat) (x1:GR) (x2:LI):Option (LI×Bool):=
 (xF F x1).bind fun r8=>
 bif (!r8) then
  Y7 F x2 x1 true
 else
  (uN F x1 x2).bind fun r9=>
  Y7 F x2 x1 (!r9)
theorem t8 (H:H8 D σ F) (x1:GR) (x2:LI) (s:Nat→V) (hs:zk [(0,gV x1),(1,eL x2)] s) (h:YY F x1 x2=some r):Run D σ (R8 r) (.run A8 []) s:=by
 unfold YY at h
 obtain ⟨h0,h1⟩:=hs
 refine .seq (zo (zT ?_))
 refine ez [(0,_),(1,_),(2,_)] ⟨za h0 rfl mIE,za h1 rfl me,zb rfl⟩ ?_
 rintro s ⟨h0,h1,h2⟩
 refine xo (gV x1) (zx h0 rfl) h2 rfl (g0 nI fun h4=>g0 (jb false) fun h5=>gq (.nsq (.seq (.seq (rg (g1 2 (gV x1) (rf (bG 2 x1)) fun h6=>?_))))))
 obtain ⟨r8,Er8,h⟩:=bind_some h
 refine zy (m:=0) (al:=false) (r:=Enc.enc (r8:Bool)) [Enc.enc (x1:GR)] (zc (v:=gV x1) h6 rfl (Enc.erase_enc (x1:GR)) zp) (H.c23 _ _ Er8) H.g23 rfl rfl rfl rfl (g1 7 (jb (!r8)) (rf (jb r8)) fun h8=>gm h8 fun h9=>zU h (fun hg4 h=>?_) (fun hg4 h=>?_))
 · iterate 4 refine zw (ct h9 hg4) ?_
   refine g2 9 13 (jb true) (ct h9 hg4) (rf (.tup [])) fun h14=>gq ?_
   exact ze2 H x2 x1 true _ ⟨h1,rfl,h4,h5,h14⟩ h
 refine zh (ct h9 hg4) (g1 2 (gV x1) (rf (bG 2 x1)) fun h10=>zh (ct h9 hg4) (gm h1 fun h11=>?_))
 obtain ⟨r9,Er9,h⟩:=bind_some h
 refine zh (ct h9 hg4) (zy (m:=0) (al:=false) (r:=Enc.enc (r9:Bool)) [Enc.enc (x1:GR),eL x2] (zc (v:=gV x1) h10 rfl (Enc.erase_enc (x1:GR)) (zc (v:=eL x2) h11 rfl (Enc.erase_enc (x2:LI)) zp)) (H.c24 _ _ _ Er9) H.g24 rfl rfl rfl rfl (zh (ct h9 hg4) (g1 12 (jb (!r9)) (rf (jb r9)) fun h13=>g2 9 13 (jb (!r9)) (ct h9 hg4) h13 fun h14=>gq ?_)))
 exact ze2 H x2 x1 (!r9) _ ⟨h1,rfl,h4,h5,h14⟩ h
end
def e8 (F:Nat):Ent:=ent 8 (fun (x:(GR×LI×Unit))=>YY F x.1 x.2.1) (fun (r:(LI×Bool))=>(.tup [eL r.1,Enc.enc (r.2:Bool)])) 0 true []
abbrev C8 (D:List V→Option V) (F:Nat):Prop:=∀ (x0:GR) (x1:LI) r,YY F x0 x1=some r→D [Enc.enc x0,Enc.enc x1]=some (.tup [eL r.1,Enc.enc (r.2:Bool)])
theorem p8 {F:Nat}:C8 (e8 F).den F:=fun x0 x1 _ h=>zK (x0,x1,()) h
theorem o8 (hF:zr Try.prog D σ) (H:H8 D σ F):(e8 F).Ok Try.prog:=okZ (f:=8) Try.func8 fun ⟨x0,x1,_⟩ y hy=>cR hF Try.func8 c8 (t8 H x0 x1 _ ⟨rfl,rfl⟩ hy)
def zsg:AC:=(.cond (.t 11) .skip (.exit 0))
def zpj:AC:=(.cond (.t 30) (rr [jm 31 5,jv 32 (.bin .add (.t 31) (jn 1)),jm 5 32]) .skip)
def zlr:AC:=(rr [jm 12 6,jv 13 (.bin .add (.t 12) (jn 1)),jm 6 13])
def zpe:AC:=(.seq (.block 1 (.seq (rr [jm 14 1,jv 15 (.fld (.t 2) 1 1),jv 16 (.load .p (.t 15)),jm 17 6,jv 18 (.idx (.t 16) (.t 17) 2),jv 19 (.idxA (.t 18) (jn 0) 2 1),jl 20 19,jx 21 (.call (jf 64) [.t 14,.t 20]),jm 22 1,jv 23 (.fld (.t 2) 1 1),jv 24 (.load .p (.t 23)),jm 25 6,jv 26 (.idx (.t 24) (.t 25) 2),jv 27 (.idxA (.t 26) (jn 1) 2 1),jl 28 27,jx 29 (.call (jf 64) [.t 22,.t 28]),jv 30 (.beq true (.t 21) (.t 29))]) zpj)) zlr)
def NV:AC:=(.seq (.seq (rr [jm 7 6,jv 8 (.fld (.t 2) 1 1),jv 9 (.load .p (.t 8)),jk 10 9,jv 11 (.bin .lss (.t 7) (.t 10))]) zsg) zpe)
def zef:AC:=(.seq (rr [jm 33 5,jm 4 33]) .ret)
def zsE:AC:=(.block 0 (.loop NV))
def zov:AC:=(.seq (.seq (rr [jv 6 (.mov (jn 0))]) zsE) zef)
def zrK:AC:=(.seq (rr [jv 5 (.mov (jn 0))]) zov)
def A39:AC:=(.seq (.reg [.clr [2]] [jx 2 (.box (.t 0)),jv 4 (.mov (jn 0))] []) zrK)
def zwc:List An:=[⟨0,[.clr [2]],[],[],[]⟩]
theorem c39:cq Try.prog Try.f39 zwc=some A39:=by kernel_rfl
structure H39 (D:Den) (σ:Sig) (F:Nat):Prop where
 c64:C64 (D 64) F
 g64:σ 64=some (0,false)
abbrev R39 (r:Int):(Nat→V)→Prop:=RR Try.prog [.tmp 4] 0 false (Enc.enc (r:Int))
section
variable {r:Int}
def XX (F:Nat) (x2:LI) (x1:GR) (x9:Int) (c1:Int→Int→Option Int) (x19:Int):Option Int:=
 c1 x19 (w64 (x9 + 1))
theorem zcx (H:H39 D σ F) (x2:LI) (x1:GR) (x9:Int) (c1:Int→Int→Option Int) (Hc1:∀ (x8:Int) (x9:Int) (s:Nat→V),zk [(1,eL x2),(2,bG 2 x1),(4,ji 0),(5,ji x8),(6,ji x9)] s→c1 x8 x9=some r→Run D σ (R39 r) (.run NV [.lp NV,.bk 0,.sq zef]) s) (x19:Int) (s:Nat→V) (hs:zk [(1,eL x2),(2,bG 2 x1),(4,ji 0),(5,ji x19),(6,ji x9)] s) (h:XX F x2 x1 x9 c1 x19=some r):Run D σ (R39 r) (.nrm [.bk 1,.sq zlr,.lp NV,.bk 0,.sq zef]) s:=by
 unfold XX at h
 obtain ⟨h1,h2,h4,h5,h6⟩:=hs
 refine .nbk (.nsq (rg (gm h6 fun h12=>g1 12 (ji (w64 (x9 + 1))) h12 fun h13=>gm h13 fun h6=>gq (.nlp ?_))))
 exact Hc1 x19 (w64 (x9 + 1)) _ ⟨h1,h2,h4,h5,h6⟩ h
def vP (F:Nat) (x2:LI) (x1:GR) :Nat→Int→Int→Option Int
 | 0,_,_=>none
 | k + 1,x8,x9=>
   bif decide (x9 < (x1.2.length:Int)) then
    (idx x1.2 x9).bind fun v15=>
    (vz F x2 v15.1).bind fun r16=>
    (idx x1.2 x9).bind fun v17=>
    (vz F x2 v17.2).bind fun r18=>
    bif (r16 != r18) then
     XX F x2 x1 x9 (vP F x2 x1 k) (w64 (x8 + 1))
    else
     XX F x2 x1 x9 (vP F x2 x1 k) x8
   else
    some x8
theorem zjb (H:H39 D σ F) (x2:LI) (x1:GR) :∀ (k:Nat) (x8:Int) (x9:Int) (s:Nat→V),zk [(1,eL x2),(2,bG 2 x1),(4,ji 0),(5,ji x8),(6,ji x9)] s→vP F x2 x1 k x8 x9=some r→Run D σ (R39 r) (.run NV [.lp NV,.bk 0,.sq zef]) s:=by
 intro k
 induction k with
 | zero=>intro x8 x9 s _ h;exact nm h
 | succ k ih=>
   intro x8 x9 s hs h
   rw [vP] at h
   obtain ⟨h1,h2,h4,h5,h6⟩:=hs
   refine .seq (.seq (rg (gm h6 fun h7=>g1 2 (.ref (.bx 2) 0 [1] (eP x1.2)) h2 fun h8=>g1 8 (eP x1.2) h8 fun h9=>gl x1.2 h9 fun h10=>g2 7 10 (jb (decide (x9 < (x1.2.length:Int)))) h7 h10 fun h11=>gq (.nsq (zg h11 h (fun h=>?_) (fun h=>?_))))))
   · refine .skip (.nsq (.seq (.block (.seq (rg (gm h1 fun h14=>g1 2 (.ref (.bx 2) 0 [1] (eP x1.2)) h2 fun h15=>g1 15 (eP x1.2) h15 fun h16=>gm h6 fun h17=>?_))))))
     obtain ⟨v15,Ev15,h⟩:=bind_some h
     refine gv (.ref .sh 0 [] (.agg [ji v15.1,ji v15.2])) (yq (t:=.sh) (lo:=0) (xs:=x1.2) h16 h17 Ev15 rfl rfl) fun h18=>g1 18 (.ref .sh 0 [0] (ji v15.1)) h18 fun h19=>g1 19 (ji v15.1) h19 fun h20=>?_
     obtain ⟨r16,Er16,h⟩:=bind_some h
     refine zy (m:=0) (al:=false) (r:=Enc.enc (r16:Bool)) [eL x2,Enc.enc (v15.1:Int)] (zc (v:=eL x2) h14 rfl (Enc.erase_enc (x2:LI)) (zc (v:=ji v15.1) h20 rfl rfl zp)) (H.c64 _ _ _ Er16) H.g64 rfl rfl rfl rfl (gm h1 fun h22=>g1 2 (.ref (.bx 2) 0 [1] (eP x1.2)) h2 fun h23=>g1 23 (eP x1.2) h23 fun h24=>gm h6 fun h25=>?_)
     obtain ⟨v17,Ev17,h⟩:=bind_some h
     refine gv (.ref .sh 0 [] (.agg [ji v17.1,ji v17.2])) (yq (t:=.sh) (lo:=0) (xs:=x1.2) h24 h25 Ev17 rfl rfl) fun h26=>g1 26 (.ref .sh 0 [1] (ji v17.2)) h26 fun h27=>g1 27 (ji v17.2) h27 fun h28=>?_
     obtain ⟨r18,Er18,h⟩:=bind_some h
     refine zy (m:=0) (al:=false) (r:=Enc.enc (r18:Bool)) [eL x2,Enc.enc (v17.2:Int)] (zc (v:=eL x2) h22 rfl (Enc.erase_enc (x2:LI)) (zc (v:=ji v17.2) h28 rfl rfl zp)) (H.c64 _ _ _ Er18) H.g64 rfl rfl rfl rfl (g2 21 29 (jb (r16 != r18)) (rf (jb r16)) (rf (jb r18)) fun h30=>gq (.nsq (zg h30 h (fun h=>?_) (fun h=>?_))))
     · refine rg (gm h5 fun h31=>g1 31 (ji (w64 (x8 + 1))) h31 fun h32=>gm h32 fun h5=>gq ?_)
       exact zcx H x2 x1 x9 (vP F x2 x1 k) ih (w64 (x8 + 1)) _ ⟨h1,h2,h4,h5,h6⟩ h
     refine .skip ?_
     exact zcx H x2 x1 x9 (vP F x2 x1 k) ih x8 _ ⟨h1,h2,h4,h5,h6⟩ h
   refine .exit (.esq (.elp (.ebk (.nsq (.seq (rg (gm h5 fun h33=>gm h33 fun h4=>gq (.nsq (.ret ?_)))))))))
   obtain rfl:=oi h
   exact rrA (zf h4) rfl
def ZM (F:Nat) (x1:GR) (x2:LI):Option Int:=
 vP F x2 x1 F 0 0
theorem t39 (H:H39 D σ F) (x1:GR) (x2:LI) (s:Nat→V) (hs:zk [(0,gV x1),(1,eL x2)] s) (h:ZM F x1 x2=some r):Run D σ (R39 r) (.run A39 []) s:=by
 unfold ZM at h
 obtain ⟨h0,h1⟩:=hs
 refine .seq (zo (zT ?_))
 refine ez [(0,_),(1,_),(2,_)] ⟨za h0 rfl mIE,za h1 rfl me,zb rfl⟩ ?_
 rintro s ⟨h0,h1,h2⟩
 refine xo (gV x1) (zx h0 rfl) h2 rfl (g0 (ji 0) fun h4=>gq (.nsq (.seq (rg (g0 (ji 0) fun h5=>gq (.nsq (.seq (.seq (rg (g0 (ji 0) fun h6=>gq (.nsq (.block (.loop ?_)))))))))))))
 exact zjb H x2 x1 F 0 0 _ ⟨h1,rfl,h4,h5,h6⟩ h
end
def e39 (F:Nat):Ent:=ent 39 (fun (x:(GR×LI×Unit))=>ZM F x.1 x.2.1) (fun (r:Int)=>(Enc.enc (r:Int))) 0 false []
abbrev C39 (D:List V→Option V) (F:Nat):Prop:=∀ (x0:GR) (x1:LI) r,ZM F x0 x1=some r→D [Enc.enc x0,Enc.enc x1]=some (Enc.enc (r:Int))
theorem p39 {F:Nat}:C39 (e39 F).den F:=fun x0 x1 _ h=>zK (x0,x1,()) h
theorem o39 (hF:zr Try.prog D σ) (H:H39 D σ F):(e39 F).Ok Try.prog:=okZ (f:=39) Try.func39 fun ⟨x0,x1,_⟩ y hy=>cR hF Try.func39 c39 (t39 H x0 x1 _ ⟨rfl,rfl⟩ hy)
def zpr:AC:=(.cond (.t 11) .skip (.exit 0))
def zqz:AC:=(rr [jm 12 6,jv 13 (.bin .add (.t 12) (jn 1)),jm 6 13])
def ztl:AC:=(.seq (.block 1 (.reg [.clr [21,22]] [jm 14 5,jv 15 (.load (.ag [.s,.p]) (.t 2)),jm 16 1,jm 17 6,jv 18 (.bin .add (.t 17) (jn 1)),jv 19 (.slice (.t 16) none (some (.t 18)) 1),jx 20 (.call (jf 39) [.t 15,.t 19]),jx 21 (.lit i0 1 [(0,0,.t 20)]),jx 22 (.app .s (.t 14) (.t 21)),jm 5 22] [.home 22 5])) zqz)
def zin:AC:=(.seq (.seq (rr [jm 8 6,jm 9 1,jk 10 9,jv 11 (.bin .lss (.t 8) (.t 10))]) zpr) ztl)
def zlI:AC:=(.seq (.reg [] [jm 23 5,jm 4 23] [.home 5 4]) .ret)
def zoV:AC:=(.block 0 (.loop zin))
def zrH:AC:=(.seq (.seq (rr [jv 6 (.mov (jn 0))]) zoV) zlI)
def zqm:AC:=(.seq (.reg [.clr [7]] [jx 7 (.lit i0 0 []),jm 5 7] [.home 7 5]) zrH)
def A30:AC:=(.seq (.reg [.clr [2]] [jx 2 (.box (.t 0)),jv 4 (.mov (.k (.sl .nl .s 0 [])))] []) zqm)
def zv3:List An:=[⟨0,[.clr [2]],[],[],[]⟩,⟨1,[.clr [7]],[],[],[.home 7 5]⟩,⟨5,[.clr [21,22]],[],[],[.home 22 5]⟩,⟨6,[],[],[],[.home 5 4]⟩]
theorem c30:cq Try.prog Try.f30 zv3=some A30:=by kernel_rfl
structure H30 (D:Den) (σ:Sig) (F:Nat):Prop where
 c39:C39 (D 39) F
 g39:σ 39=some (0,false)
abbrev R30 (r:LI):(Nat→V)→Prop:=RR Try.prog [.tmp 4] 0 false (eL r)
section
variable {r:LI}
def Zf (F:Nat) (x2:LI) (x1:GR) :Nat→LI→Int→Option LI
 | 0,_,_=>none
 | k + 1,x6,x7=>
   bif decide (x7 < (x2.length:Int)) then
    (sub x2 0 (w64 (x7 + 1))).bind fun sub11=>
    (ZM F x1 sub11).bind fun r12=>
    (wJ x6 [r12]).bind fun ap13=>
    (Zf F x2 x1 k) ap13 (w64 (x7 + 1))
   else
    some x6
theorem zjC (H:H30 D σ F) (x2:LI) (x1:GR) :∀ (k:Nat) (x6:LI) (x7:Int) (s:Nat→V),zk [(1,eL x2),(2,bG 2 x1),(4,nI),(5,oI 5 [] (.of x6)),(6,ji x7)] s→Zf F x2 x1 k x6 x7=some r→Run D σ (R30 r) (.run zin [.lp zin,.bk 0,.sq zlI]) s:=by
 intro k
 induction k with
 | zero=>intro x6 x7 s _ h;exact nm h
 | succ k ih=>
   intro x6 x7 s hs h
   rw [Zf] at h
   obtain ⟨h1,h2,h4,h5,h6⟩:=hs
   refine .seq (.seq (rg (gm h6 fun h8=>gm h1 fun h9=>gl x2 h9 fun h10=>g2 8 10 (jb (decide (x7 < (x2.length:Int)))) h8 h10 fun h11=>gq (.nsq (zg h11 h (fun h=>?_) (fun h=>?_))))))
   · refine .skip (.nsq (.seq (.block (zo (zT ?_)))))
     refine ez [(1,_),(2,_),(4,_),(5,_),(6,_),(21,_),(22,_)] ⟨za h1 rfl me,za h2 rfl (zi rfl mIE),za h4 rfl rfl,za h5 rfl (zl (r:=5) (p:=[]) rfl rfl),za h6 rfl mi,zb rfl,zb rfl⟩ ?_
     rintro s ⟨h1,h2,h4,h5,h6,h21,h22⟩
     refine gm h5 fun h14=>g1 2 (gV x1) h2 fun h15=>gm h1 fun h16=>gm h6 fun h17=>g1 17 (ji (w64 (x7 + 1))) h17 fun h18=>?_
     obtain ⟨sub11,Esub11,h⟩:=bind_some h
     refine gv (eL sub11) (Na (xs:=x2) h16 (WX) (WJ h18) Esub11 rfl) fun h19=>?_
     obtain ⟨r12,Er12,h⟩:=bind_some h
     refine zy (m:=0) (al:=false) (r:=Enc.enc (r12:Int)) [Enc.enc (x1:GR),eL sub11] (zc (v:=gV x1) h15 rfl (Enc.erase_enc (x1:GR)) (zc (v:=eL sub11) h19 rfl (Enc.erase_enc (sub11:LI)) zp)) (H.c39 _ _ _ Er12) H.g39 rfl rfl rfl rfl (xq [(20,ji r12)] [Enc.enc (r12:Int)] rfl rfl rfl h21 ?_)
     obtain ⟨ap13,Eap13,h⟩:=bind_some h
     refine Xd (q:=5) (p:=[]) (o:=.of (x6:LI)) (ys:=([r12]:LI)) (t2:=.at 21 []) (lo2:=0) h14 rfl rfl h22 (ZB (o:=.of (x6:LI)) Eap13 trivial) (fun s11 ha11=>gm (rf (oI 22 [] (.of ap13))) fun h5=>yL (yr (r:=22) (x:=5) (v:=_) h5 rfl (fun s12 hz12=>?_)))
     refine ez [(1,eL x2),(2,bG 2 x1),(4,nI),(5,oI 5 [] (.of ap13)),(6,ji x7)] ⟨hz12 1 _ _ (show s11 1=(eL x2) from zL ha11 h1 me) me,hz12 2 _ _ (show s11 2=(bG 2 x1) from zL ha11 h2 (zi rfl mIE)) (zi rfl mIE),hz12 4 _ nI (show s11 4=nI from zL ha11 h4 rfl) rfl,hz12 5 _ _ h5 (zl (r:=22) (p:=[]) rfl rfl),hz12 6 _ _ (show s11 6=(ji x7) from zL ha11 h6 mi) mi⟩ ?_
     rintro s ⟨h1,h2,h4,h5,h6⟩
     refine .nbk (.nsq (rg (gm h6 fun h12=>g1 12 (ji (w64 (x7 + 1))) h12 fun h13=>gm h13 fun h6=>gq (.nlp ?_))))
     exact ih ap13 (w64 (x7 + 1)) _ ⟨h1,h2,h4,h5,h6⟩ h
   refine .exit (.esq (.elp (.ebk (.nsq (.seq (rg (gm h5 fun h23=>gm h23 fun h4=>yL (yr (r:=5) (x:=4) (v:=_) h4 rfl (fun s13 hz13=>?_)))))))))
   refine ez [(4,oI 4 [] (.of x6))] (hz13 4 _ _ h4 (zl (r:=5) (p:=[]) rfl rfl)) ?_
   rintro s h4
   refine .nsq (.ret ?_)
   obtain rfl:=oi h
   exact rrA (zf h4) (ud (wl (o:=.of x6)) (wx rfl))
def Y4 (F:Nat) (x1:GR) (x2:LI):Option LI:=
 Zf F x2 x1 F [] 0
theorem t30 (H:H30 D σ F) (x1:GR) (x2:LI) (s:Nat→V) (hs:zk [(0,gV x1),(1,eL x2)] s) (h:Y4 F x1 x2=some r):Run D σ (R30 r) (.run A30 []) s:=by
 unfold Y4 at h
 obtain ⟨h0,h1⟩:=hs
 refine .seq (zo (zT ?_))
 refine ez [(0,_),(1,_),(2,_)] ⟨za h0 rfl mIE,za h1 rfl me,zb rfl⟩ ?_
 rintro s ⟨h0,h1,h2⟩
 refine xo (gV x1) (zx h0 rfl) h2 rfl (g0 nI fun h4=>gq (.nsq (.seq (zo (zT ?_)))))
 refine ez [(1,_),(2,_),(4,_),(7,_)] ⟨za h1 rfl me,za rfl rfl (zi rfl mIE),za h4 rfl rfl,zb rfl⟩ ?_
 rintro s ⟨h1,h2,h4,h7⟩
 refine xq [] [] trivial rfl rfl h7 (gm (rf (oI 7 [] (.of []))) fun h5=>yL (yr (r:=7) (x:=5) (v:=_) h5 rfl (fun s3 hz3=>?_)))
 refine ez [(1,eL x2),(2,bG 2 x1),(4,nI),(5,oI 5 [] (.of []))] ⟨hz3 1 _ _ h1 me,hz3 2 _ _ h2 (zi rfl mIE),hz3 4 _ _ h4 rfl,hz3 5 _ _ h5 (zl (r:=7) (p:=[]) rfl rfl)⟩ ?_
 rintro s ⟨h1,h2,h4,h5⟩
 refine .nsq (.seq (.seq (rg (g0 (ji 0) fun h6=>gq (.nsq (.block (.loop ?_)))))))
 exact zjC H x2 x1 F [] 0 _ ⟨h1,h2,h4,h5,h6⟩ h
end
def e30 (F:Nat):Ent:=ent 30 (fun (x:(GR×LI×Unit))=>Y4 F x.1 x.2.1) (fun (r:LI)=>(eL r)) 0 false []
abbrev C30 (D:List V→Option V) (F:Nat):Prop:=∀ (x0:GR) (x1:LI) r,Y4 F x0 x1=some r→D [Enc.enc x0,Enc.enc x1]=some (eL r)
theorem p30 {F:Nat}:C30 (e30 F).den F:=fun x0 x1 _ h=>zK (x0,x1,()) h
theorem o30 (hF:zr Try.prog D σ) (H:H30 D σ F):(e30 F).Ok Try.prog:=okZ (f:=30) Try.func30 fun ⟨x0,x1,_⟩ y hy=>cR hF Try.func30 c30 (t30 H x0 x1 _ ⟨rfl,rfl⟩ hy)
def zv8:AC:=(.cond (.t 9) (.seq (.reg [.clr [10]] [jx 10 (.lit i0 0 []),jm 4 10,jv 5 (.mov kf)] [.home 10 4]) .ret) .skip)
def zu9:AC:=(.seq (rr [jv 11 (.load (.ag [.s,.p]) (.t 2)),jm 12 1,jx 13 (.call (jf 30) [.t 11,.t 12]),jm 4 13,jv 5 (.mov kt)]) .ret)
def zvg:AC:=(.seq (.seq (rr [jv 6 (.load (.ag [.s,.p]) (.t 2)),jm 7 1,jx 8 (.call (jf 26) [.t 6,.t 7]),jv 9 (.un .not (.t 8))]) zv8) zu9)
def A9:AC:=(.seq (.reg [.clr [2]] [jx 2 (.box (.t 0)),jv 4 (.mov (.k (.sl .nl .s 0 []))),jv 5 (.mov kf)] []) zvg)
def an9:List An:=[⟨0,[.clr [2]],[],[],[]⟩,⟨2,[.clr [10]],[],[],[.home 10 4]⟩]
theorem c9:cq Try.prog Try.f9 an9=some A9:=by kernel_rfl
structure H9 (D:Den) (σ:Sig) (F:Nat):Prop where
 c26:C26 (D 26) F
 g26:σ 26=some (0,false)
 c30:C30 (D 30) F
 g30:σ 30=some (0,false)
abbrev R9 (r:(LI×Bool)):(Nat→V)→Prop:=RR Try.prog [.tmp 4,.tmp 5] 0 true (.tup [eL r.1,Enc.enc (r.2:Bool)])
section
variable {r:(LI×Bool)}
def Yh (F:Nat) (x1:GR) (x2:LI):Option (LI×Bool):=
 (vT F x1 x2).bind fun r3=>
 bif (!r3) then
  some ([],false)
 else
  (Y4 F x1 x2).bind fun r4=>
  some (r4,true)
theorem t9 (H:H9 D σ F) (x1:GR) (x2:LI) (s:Nat→V) (hs:zk [(0,gV x1),(1,eL x2)] s) (h:Yh F x1 x2=some r):Run D σ (R9 r) (.run A9 []) s:=by
 unfold Yh at h
 obtain ⟨h0,h1⟩:=hs
 refine .seq (zo (zT ?_))
 refine ez [(0,_),(1,_),(2,_)] ⟨za h0 rfl mIE,za h1 rfl me,zb rfl⟩ ?_
 rintro s ⟨h0,h1,h2⟩
 refine xo (gV x1) (zx h0 rfl) h2 rfl (g0 nI fun h4=>g0 (jb false) fun h5=>gq (.nsq (.seq (.seq (rg (g1 2 (gV x1) (rf (bG 2 x1)) fun h6=>gm h1 fun h7=>?_))))))
 obtain ⟨r3,Er3,h⟩:=bind_some h
 refine zy (m:=0) (al:=false) (r:=Enc.enc (r3:Bool)) [Enc.enc (x1:GR),eL x2] (zc (v:=gV x1) h6 rfl (Enc.erase_enc (x1:GR)) (zc (v:=eL x2) h7 rfl (Enc.erase_enc (x2:LI)) zp)) (H.c26 _ _ _ Er3) H.g26 rfl rfl rfl rfl (g1 8 (jb (!r3)) (rf (jb r3)) fun h9=>gq (.nsq (zg h9 h (fun h=>?_) (fun h=>?_))))
 · refine .seq (zo (zT ?_))
   refine ez [(1,_),(2,_),(4,_),(5,_),(10,_)] ⟨za h1 rfl me,za rfl rfl (zi rfl mIE),za h4 rfl rfl,za h5 rfl mb,zb rfl⟩ ?_
   rintro s ⟨h1,h2,h4,h5,h10⟩
   refine xq [] [] trivial rfl rfl h10 (gm (rf (oI 10 [] (.of []))) fun h4=>g0 (jb false) fun h5=>yL (yr (r:=10) (x:=4) (v:=_) h4 rfl (fun s5 hz5=>?_)))
   refine ez [(1,eL x2),(2,bG 2 x1),(4,oI 4 [] (.of [])),(5,jb false)] ⟨hz5 1 _ _ h1 me,hz5 2 _ _ h2 (zi rfl mIE),hz5 4 _ _ h4 (zl (r:=10) (p:=[]) rfl rfl),hz5 5 _ _ h5 mb⟩ ?_
   rintro s ⟨h1,h2,h4,h5⟩
   refine .nsq (.ret ?_)
   obtain rfl:=oi h
   exact rrB (zf h4) (zf h5) (xS (wH (zP (wl (o:=.of [])) (zP (yz (x:=(false:Bool))) xA))))
 refine .skip (.nsq (.seq (rg (g1 2 (gV x1) (rf (bG 2 x1)) fun h11=>gm h1 fun h12=>?_))))
 obtain ⟨r4,Er4,h⟩:=bind_some h
 refine zy (m:=0) (al:=false) (r:=eL r4) [Enc.enc (x1:GR),eL x2] (zc (v:=gV x1) h11 rfl (Enc.erase_enc (x1:GR)) (zc (v:=eL x2) h12 rfl (Enc.erase_enc (x2:LI)) zp)) (H.c30 _ _ _ Er4) H.g30 rfl rfl rfl rfl (gm (rf (eL r4)) fun h4=>g0 (jb true) fun h5=>gq (.nsq (.ret ?_)))
 obtain rfl:=oi h
 exact rrB (zf h4) (zf h5) (xS (wH (zP (yz (x:=(r4:LI))) (zP (yz (x:=(true:Bool))) xA))))
end
def e9 (F:Nat):Ent:=ent 9 (fun (x:(GR×LI×Unit))=>Yh F x.1 x.2.1) (fun (r:(LI×Bool))=>(.tup [eL r.1,Enc.enc (r.2:Bool)])) 0 true []
abbrev C9 (D:List V→Option V) (F:Nat):Prop:=∀ (x0:GR) (x1:LI) r,Yh F x0 x1=some r→D [Enc.enc x0,Enc.enc x1]=some (.tup [eL r.1,Enc.enc (r.2:Bool)])
theorem p9 {F:Nat}:C9 (e9 F).den F:=fun x0 x1 _ h=>zK (x0,x1,()) h
theorem o9 (hF:zr Try.prog D σ) (H:H9 D σ F):(e9 F).Ok Try.prog:=okZ (f:=9) Try.func9 fun ⟨x0,x1,_⟩ y hy=>cR hF Try.func9 c9 (t9 H x0 x1 _ ⟨rfl,rfl⟩ hy)
def zqF:AC:=(rr [jm 27 6,jm 28 8,jv 29 (.mx [.t 27,.t 28]),jm 6 29])
def zpK:AC:=(rr [jv 30 (.bin .add (.t 23) (jn 1)),jm 23 30])
def ztp:AC:=(.seq (.block 1 (.seq (rr [jv 25 (.idx (.t 21) (.t 23) 1),jl 26 25,jm 8 26]) zqF)) zpK)
def zrO:AC:=(.seq (.cond (.t 24) .skip (.exit 0)) ztp)
def ziD:AC:=(.seq (rr [jv 24 (.bin .lss (.t 23) (.t 22))]) zrO)
def zl5:AC:=(.seq (rr [jm 31 6,jm 4 31,jv 5 (.mov kt)]) .ret)
def zlq:AC:=(.cond (.t 17) (.seq (rr [jv 4 (.mov (jn 0)),jv 5 (.mov kf)]) .ret) .skip)
def zm3:AC:=(.block 0 (.loop ziD))
def ztq:AC:=(.seq (.seq (rr [jv 18 (.load (.ag [.s,.p]) (.t 2)),jx 19 (.call (jf 28) [.t 18]),jm 20 1,jx 21 (.call (jf 29) [.t 19,.t 20]),jk 22 21,jv 23 (.mov (jn 0))]) zm3) zl5)
def zlv:AC:=(.seq (rr [jv 6 (.mov (jn 0))]) ztq)
def zmi:AC:=(.seq (.seq (rr [jv 9 (.load (.ag [.s,.p]) (.t 2)),jx 10 (.call (jf 23) [.t 9]),jv 11 (.un .not (.t 10)),jm 12 11,jg 13 12 false (.load (.ag [.s,.p]) (.t 2)),jg 14 12 false (.mov (.t 1)),.mk (some 15) (some (12,false)) false (.call (jf 24) [.t 13,.t 14]),jg 16 12 false (.un .not (.t 15)),jv 17 (.pick (.t 12) kt (.t 16))]) zlq) zlv)
def A10:AC:=(.seq (.reg [.clr [2]] [jx 2 (.box (.t 0)),jv 4 (.mov (jn 0)),jv 5 (.mov kf)] []) zmi)
def zuN:List An:=[⟨0,[.clr [2]],[],[],[]⟩]
theorem c10:cq Try.prog Try.f10 zuN=some A10:=by kernel_rfl
structure H10 (D:Den) (σ:Sig) (F:Nat):Prop where
 c23:C23 (D 23) F
 g23:σ 23=some (0,false)
 c24:C24 (D 24) F
 g24:σ 24=some (0,false)
 c28:C28 (D 28) F
 g28:σ 28=some (0,false)
 c29:C29 (D 29) F
 g29:σ 29=some (0,false)
abbrev R10 (r:(Int×Bool)):(Nat→V)→Prop:=RR Try.prog [.tmp 4,.tmp 5] 0 false (.tup [Enc.enc (r.1:Int),Enc.enc (r.2:Bool)])
section
variable {r:(Int×Bool)}
def xL (F:Nat) (r7:LI) :Nat→Int→Int→Option (Int×Bool)
 | 0,_,_=>none
 | k + 1,x9,x10=>
   bif decide (x10 < (r7.length:Int)) then
    (idx r7 x10).bind fun v12=>
    (xL F r7 k) (if v12 > x9 then v12 else x9) (w64 (x10 + 1))
   else
    some (x9,true)
theorem zi0 (H:H10 D σ F) (r7:LI) :∀ (k:Nat) (x9:Int) (x10:Int) (s:Nat→V),zk [(4,ji 0),(5,jb false),(6,ji x9),(21,eL r7),(22,ji (r7.length:Int)),(23,ji x10)] s→xL F r7 k x9 x10=some r→Run D σ (R10 r) (.run ziD [.lp ziD,.bk 0,.sq zl5]) s:=by
 intro k
 induction k with
 | zero=>intro x9 x10 s _ h;exact nm h
 | succ k ih=>
   intro x9 x10 s hs h
   rw [xL] at h
   obtain ⟨h4,h5,h6,h21,h22,h23⟩:=hs
   refine .seq (rg (g2 23 22 (jb (decide (x10 < (r7.length:Int)))) h23 h22 fun h24=>gq (.nsq (.seq (zg h24 h (fun h=>?_) (fun h=>?_))))))
   · refine .skip (.nsq (.seq (.block (.seq (rg ?_)))))
     obtain ⟨v12,Ev12,h⟩:=bind_some h
     refine gv (.ref .sh 0 [] (ji v12)) (yq (t:=.sh) (lo:=0) (xs:=r7) h21 h23 Ev12 rfl rfl) fun h25=>g1 25 (ji v12) h25 fun h26=>gm h26 fun h8=>gq (.nsq (rg (gm h6 fun h27=>gm h8 fun h28=>g2 27 28 (ji (if v12 > x9 then v12 else x9)) h27 h28 fun h29=>gm h29 fun h6=>gq (.nbk (.nsq (rg (g1 23 (ji (w64 (x10 + 1))) h23 fun h30=>gm h30 fun h23=>gq (.nlp ?_))))))))
     exact ih (if v12 > x9 then v12 else x9) (w64 (x10 + 1)) _ ⟨h4,h5,h6,h21,h22,h23⟩ h
   refine .exit (.esq (.elp (.ebk (.nsq (.seq (rg (gm h6 fun h31=>gm h31 fun h4=>g0 (jb true) fun h5=>gq (.nsq (.ret ?_)))))))))
   obtain rfl:=oi h
   exact rrB (zf h4) (zf h5) rfl
def uL (F:Nat) (x2:LI) (x1:GR)  (x5:Bool):Option (Int×Bool):=
 bif x5 then
  some (0,false)
 else
  (vw F x1).bind fun r6=>
  (wT F r6 x2).bind fun r7=>
  xL F r7 F 0 0
theorem zb5 (H:H10 D σ F) (x2:LI) (x1:GR)  (x5:Bool) (s:Nat→V) (hs:zk [(1,eL x2),(2,bG 2 x1),(4,ji 0),(5,jb false),(17,jb x5)] s) (h:uL F x2 x1  x5=some r):Run D σ (R10 r) (.nrm [.sq zlq,.sq zlv]) s:=by
 unfold uL at h
 obtain ⟨h1,h2,h4,h5,h17⟩:=hs
 refine .nsq (zg h17 h (fun h=>?_) (fun h=>?_))
 · refine .seq (rg (g0 (ji 0) fun h4=>g0 (jb false) fun h5=>gq (.nsq (.ret ?_))))
   obtain rfl:=oi h
   exact rrB (zf h4) (zf h5) rfl
 refine .skip (.nsq (.seq (rg (g0 (ji 0) fun h6=>gq (.nsq (.seq (.seq (rg (g1 2 (gV x1) h2 fun h18=>?_)))))))))
 obtain ⟨r6,Er6,h⟩:=bind_some h
 refine zy (m:=0) (al:=false) (r:=Enc.enc (r6:(S1 LI))) [Enc.enc (x1:GR)] (zc (v:=gV x1) h18 rfl (Enc.erase_enc (x1:GR)) zp) (H.c28 _ _ Er6) H.g28 rfl rfl rfl rfl (gm h1 fun h20=>?_)
 obtain ⟨r7,Er7,h⟩:=bind_some h
 refine zy (m:=0) (al:=false) (r:=eL r7) [Enc.enc (r6:(S1 LI)),eL x2] (zc (v:=.agg [eL r6.a]) rfl rfl (Enc.erase_enc (r6:(S1 LI))) (zc (v:=eL x2) h20 rfl (Enc.erase_enc (x2:LI)) zp)) (H.c29 _ _ _ Er7) H.g29 rfl rfl rfl rfl (gl r7 rfl fun h22=>g0 (ji 0) fun h23=>gq (.nsq (.block (.loop ?_))))
 exact zi0 H r7 F 0 0 _ ⟨h4,h5,h6,rfl,h22,h23⟩ h
def wV (F:Nat) (x1:GR) (x2:LI):Option (Int×Bool):=
 (xF F x1).bind fun r13=>
 bif (!r13) then
  uL F x2 x1 true
 else
  (uN F x1 x2).bind fun r14=>
  uL F x2 x1 (!r14)
theorem t10 (H:H10 D σ F) (x1:GR) (x2:LI) (s:Nat→V) (hs:zk [(0,gV x1),(1,eL x2)] s) (h:wV F x1 x2=some r):Run D σ (R10 r) (.run A10 []) s:=by
 unfold wV at h
 obtain ⟨h0,h1⟩:=hs
 refine .seq (zo (zT ?_))
 refine ez [(0,_),(1,_),(2,_)] ⟨za h0 rfl mIE,za h1 rfl me,zb rfl⟩ ?_
 rintro s ⟨h0,h1,h2⟩
 refine xo (gV x1) (zx h0 rfl) h2 rfl (g0 (ji 0) fun h4=>g0 (jb false) fun h5=>gq (.nsq (.seq (.seq (rg (g1 2 (gV x1) (rf (bG 2 x1)) fun h9=>?_))))))
 obtain ⟨r13,Er13,h⟩:=bind_some h
 refine zy (m:=0) (al:=false) (r:=Enc.enc (r13:Bool)) [Enc.enc (x1:GR)] (zc (v:=gV x1) h9 rfl (Enc.erase_enc (x1:GR)) zp) (H.c23 _ _ Er13) H.g23 rfl rfl rfl rfl (g1 10 (jb (!r13)) (rf (jb r13)) fun h11=>gm h11 fun h12=>zU h (fun hg4 h=>?_) (fun hg4 h=>?_))
 · iterate 4 refine zw (ct h12 hg4) ?_
   refine g2 12 16 (jb true) (ct h12 hg4) (rf (.tup [])) fun h17=>gq ?_
   exact zb5 H x2 x1 true _ ⟨h1,rfl,h4,h5,h17⟩ h
 refine zh (ct h12 hg4) (g1 2 (gV x1) (rf (bG 2 x1)) fun h13=>zh (ct h12 hg4) (gm h1 fun h14=>?_))
 obtain ⟨r14,Er14,h⟩:=bind_some h
 refine zh (ct h12 hg4) (zy (m:=0) (al:=false) (r:=Enc.enc (r14:Bool)) [Enc.enc (x1:GR),eL x2] (zc (v:=gV x1) h13 rfl (Enc.erase_enc (x1:GR)) (zc (v:=eL x2) h14 rfl (Enc.erase_enc (x2:LI)) zp)) (H.c24 _ _ _ Er14) H.g24 rfl rfl rfl rfl (zh (ct h12 hg4) (g1 15 (jb (!r14)) (rf (jb r14)) fun h16=>g2 12 16 (jb (!r14)) (ct h12 hg4) h16 fun h17=>gq ?_)))
 exact zb5 H x2 x1 (!r14) _ ⟨h1,rfl,h4,h5,h17⟩ h
end
def e10 (F:Nat):Ent:=ent 10 (fun (x:(GR×LI×Unit))=>wV F x.1 x.2.1) (fun (r:(Int×Bool))=>(.tup [Enc.enc (r.1:Int),Enc.enc (r.2:Bool)])) 0 false []
abbrev C10 (D:List V→Option V) (F:Nat):Prop:=∀ (x0:GR) (x1:LI) r,wV F x0 x1=some r→D [Enc.enc x0,Enc.enc x1]=some (.tup [Enc.enc (r.1:Int),Enc.enc (r.2:Bool)])
theorem p10 {F:Nat}:C10 (e10 F).den F:=fun x0 x1 _ h=>zK (x0,x1,()) h
theorem o10 (hF:zr Try.prog D σ) (H:H10 D σ F):(e10 F).Ok Try.prog:=okZ (f:=10) Try.func10 fun ⟨x0,x1,_⟩ y hy=>cR hF Try.func10 c10 (t10 H x0 x1 _ ⟨rfl,rfl⟩ hy)
def zsU:AC:=(.cond (.t 8) .skip (.exit 0))
def zp4:AC:=(rr [jm 9 4,jv 10 (.bin .add (.t 9) (jn 1)),jm 4 10])
def ztd:AC:=(.seq (.block 1 (rr [jm 11 3,jm 12 0,jm 13 4,jv 14 (.idx (.t 12) (.t 13) 1),jl 15 14,jx 16 (.call (jf 43) [.t 11,.t 15]),jm 3 16])) zp4)
def zja:AC:=(.seq (.seq (rr [jm 5 4,jm 6 0,jk 7 6,jv 8 (.bin .lss (.t 5) (.t 7))]) zsU) ztd)
def zlT:AC:=(.seq (rr [jm 17 3,jm 2 17]) .ret)
def zrN:AC:=(.block 0 (.loop zja))
def zo5:AC:=(.seq (.seq (rr [jv 4 (.mov (jn 0))]) zrN) zlT)
def zua:AC:=(.seq (rr [jv 3 (.mov (jn 0))]) zo5)
def A31:AC:=(.seq (rr [jv 2 (.mov (jn 0))]) zua)
def zu5:List An:=[]
theorem c31:cq Try.prog Try.f31 zu5=some A31:=by kernel_rfl
structure H31 (D:Den) (σ:Sig) (F:Nat):Prop where
 c43:C43 (D 43) F
 g43:σ 43=some (0,false)
abbrev R31 (r:Int):(Nat→V)→Prop:=RR Try.prog [.tmp 2] 0 false (Enc.enc (r:Int))
section
variable {r:Int}
def wr (F:Nat) (x1:LI) :Nat→Int→Int→Option Int
 | 0,_,_=>none
 | k + 1,x4,x5=>
   bif decide (x5 < (x1.length:Int)) then
    (idx x1 x5).bind fun v8=>
    (ua F x4 v8).bind fun r9=>
    (wr F x1 k) r9 (w64 (x5 + 1))
   else
    some x4
theorem zg6 (H:H31 D σ F) (x1:LI) :∀ (k:Nat) (x4:Int) (x5:Int) (s:Nat→V),zk [(0,eL x1),(2,ji 0),(3,ji x4),(4,ji x5)] s→wr F x1 k x4 x5=some r→Run D σ (R31 r) (.run zja [.lp zja,.bk 0,.sq zlT]) s:=by
 intro k
 induction k with
 | zero=>intro x4 x5 s _ h;exact nm h
 | succ k ih=>
   intro x4 x5 s hs h
   rw [wr] at h
   obtain ⟨h0,h2,h3,h4⟩:=hs
   refine .seq (.seq (rg (gm h4 fun h5=>gm h0 fun h6=>gl x1 h6 fun h7=>g2 5 7 (jb (decide (x5 < (x1.length:Int)))) h5 h7 fun h8=>gq (.nsq (zg h8 h (fun h=>?_) (fun h=>?_))))))
   · refine .skip (.nsq (.seq (.block (rg (gm h3 fun h11=>gm h0 fun h12=>gm h4 fun h13=>?_)))))
     obtain ⟨v8,Ev8,h⟩:=bind_some h
     refine gv (.ref .sh 0 [] (ji v8)) (yq (t:=.sh) (lo:=0) (xs:=x1) h12 h13 Ev8 rfl rfl) fun h14=>g1 14 (ji v8) h14 fun h15=>?_
     obtain ⟨r9,Er9,h⟩:=bind_some h
     refine zy (m:=0) (al:=false) (r:=Enc.enc (r9:Int)) [Enc.enc (x4:Int),Enc.enc (v8:Int)] (zc (v:=ji x4) h11 rfl rfl (zc (v:=ji v8) h15 rfl rfl zp)) (H.c43 _ _ _ Er9) H.g43 rfl rfl rfl rfl (gm (rf (ji r9)) fun h3=>gq (.nbk (.nsq (rg (gm h4 fun h9=>g1 9 (ji (w64 (x5 + 1))) h9 fun h10=>gm h10 fun h4=>gq (.nlp ?_))))))
     exact ih r9 (w64 (x5 + 1)) _ ⟨h0,h2,h3,h4⟩ h
   refine .exit (.esq (.elp (.ebk (.nsq (.seq (rg (gm h3 fun h17=>gm h17 fun h2=>gq (.nsq (.ret ?_)))))))))
   obtain rfl:=oi h
   exact rrA (zf h2) rfl
def uz (F:Nat) (x1:LI):Option Int:=
 wr F x1 F 0 0
theorem t31 (H:H31 D σ F) (x1:LI) (s:Nat→V) (hs:zk [(0,eL x1)] s) (h:uz F x1=some r):Run D σ (R31 r) (.run A31 []) s:=by
 unfold uz at h
 have h0:=hs
 refine .seq (rg (g0 (ji 0) fun h2=>gq (.nsq (.seq (rg (g0 (ji 0) fun h3=>gq (.nsq (.seq (.seq (rg (g0 (ji 0) fun h4=>gq (.nsq (.block (.loop ?_))))))))))))))
 exact zg6 H x1 F 0 0 _ ⟨h0,h2,h3,h4⟩ h
end
def e31 (F:Nat):Ent:=ent 31 (fun (x:(LI×Unit))=>uz F x.1) (fun (r:Int)=>(Enc.enc (r:Int))) 0 false []
abbrev C31 (D:List V→Option V) (F:Nat):Prop:=∀ (x0:LI) r,uz F x0=some r→D [Enc.enc x0]=some (Enc.enc (r:Int))
theorem p31 {F:Nat}:C31 (e31 F).den F:=fun x0 _ h=>zK (x0,()) h
theorem o31 (hF:zr Try.prog D σ) (H:H31 D σ F):(e31 F).Ok Try.prog:=okZ (f:=31) Try.func31 fun ⟨x0,_⟩ y hy=>cR hF Try.func31 c31 (t31 H x0 _ rfl hy)
def zrn:AC:=(.cond (.t 9) (.seq (rr [jv 4 (.mov (jn 0)),jv 5 (.mov kf)]) .ret) .skip)
def zql:AC:=(.seq (rr [jv 10 (.load (.ag [.s,.p]) (.t 2)),jm 11 1,jx 12 (.call (jf 30) [.t 10,.t 11]),jx 13 (.call (jf 31) [.t 12]),jm 4 13,jv 5 (.mov kt)]) .ret)
def zoE:AC:=(.seq (.seq (rr [jv 6 (.load (.ag [.s,.p]) (.t 2)),jm 7 1,jx 8 (.call (jf 26) [.t 6,.t 7]),jv 9 (.un .not (.t 8))]) zrn) zql)
def A11:AC:=(.seq (.reg [.clr [2]] [jx 2 (.box (.t 0)),jv 4 (.mov (jn 0)),jv 5 (.mov kf)] []) zoE)
def zv1:List An:=[⟨0,[.clr [2]],[],[],[]⟩]
theorem c11:cq Try.prog Try.f11 zv1=some A11:=by kernel_rfl
structure H11 (D:Den) (σ:Sig) (F:Nat):Prop where
 c26:C26 (D 26) F
 g26:σ 26=some (0,false)
 c30:C30 (D 30) F
 g30:σ 30=some (0,false)
 c31:C31 (D 31) F
 g31:σ 31=some (0,false)
abbrev R11 (r:(Int×Bool)):(Nat→V)→Prop:=RR Try.prog [.tmp 4,.tmp 5] 0 false (.tup [Enc.enc (r.1:Int),Enc.enc (r.2:Bool)])
section
variable {r:(Int×Bool)}
def uC (F:Nat) (x1:GR) (x2:LI):Option (Int×Bool):=
 (vT F x1 x2).bind fun r3=>
 bif (!r3) then
  some (0,false)
 else
  (Y4 F x1 x2).bind fun r4=>
  (uz F r4).bind fun r5=>
  some (r5,true)
theorem t11 (H:H11 D σ F) (x1:GR) (x2:LI) (s:Nat→V) (hs:zk [(0,gV x1),(1,eL x2)] s) (h:uC F x1 x2=some r):Run D σ (R11 r) (.run A11 []) s:=by
 unfold uC at h
 obtain ⟨h0,h1⟩:=hs
 refine .seq (zo (zT ?_))
 refine ez [(0,_),(1,_),(2,_)] ⟨za h0 rfl mIE,za h1 rfl me,zb rfl⟩ ?_
 rintro s ⟨h0,h1,h2⟩
 refine xo (gV x1) (zx h0 rfl) h2 rfl (g0 (ji 0) fun h4=>g0 (jb false) fun h5=>gq (.nsq (.seq (.seq (rg (g1 2 (gV x1) (rf (bG 2 x1)) fun h6=>gm h1 fun h7=>?_))))))
 obtain ⟨r3,Er3,h⟩:=bind_some h
 refine zy (m:=0) (al:=false) (r:=Enc.enc (r3:Bool)) [Enc.enc (x1:GR),eL x2] (zc (v:=gV x1) h6 rfl (Enc.erase_enc (x1:GR)) (zc (v:=eL x2) h7 rfl (Enc.erase_enc (x2:LI)) zp)) (H.c26 _ _ _ Er3) H.g26 rfl rfl rfl rfl (g1 8 (jb (!r3)) (rf (jb r3)) fun h9=>gq (.nsq (zg h9 h (fun h=>?_) (fun h=>?_))))
 · refine .seq (rg (g0 (ji 0) fun h4=>g0 (jb false) fun h5=>gq (.nsq (.ret ?_))))
   obtain rfl:=oi h
   exact rrB (zf h4) (zf h5) rfl
 refine .skip (.nsq (.seq (rg (g1 2 (gV x1) (rf (bG 2 x1)) fun h10=>gm h1 fun h11=>?_))))
 obtain ⟨r4,Er4,h⟩:=bind_some h
 refine zy (m:=0) (al:=false) (r:=eL r4) [Enc.enc (x1:GR),eL x2] (zc (v:=gV x1) h10 rfl (Enc.erase_enc (x1:GR)) (zc (v:=eL x2) h11 rfl (Enc.erase_enc (x2:LI)) zp)) (H.c30 _ _ _ Er4) H.g30 rfl rfl rfl rfl ?_
 obtain ⟨r5,Er5,h⟩:=bind_some h
 refine zy (m:=0) (al:=false) (r:=Enc.enc (r5:Int)) [eL r4] (zc (v:=eL r4) rfl rfl (Enc.erase_enc (r4:LI)) zp) (H.c31 _ _ Er5) H.g31 rfl rfl rfl rfl (gm (rf (ji r5)) fun h4=>g0 (jb true) fun h5=>gq (.nsq (.ret ?_)))
 obtain rfl:=oi h
 exact rrB (zf h4) (zf h5) rfl
end
def e11 (F:Nat):Ent:=ent 11 (fun (x:(GR×LI×Unit))=>uC F x.1 x.2.1) (fun (r:(Int×Bool))=>(.tup [Enc.enc (r.1:Int),Enc.enc (r.2:Bool)])) 0 false []
abbrev C11 (D:List V→Option V) (F:Nat):Prop:=∀ (x0:GR) (x1:LI) r,uC F x0 x1=some r→D [Enc.enc x0,Enc.enc x1]=some (.tup [Enc.enc (r.1:Int),Enc.enc (r.2:Bool)])
theorem p11 {F:Nat}:C11 (e11 F).den F:=fun x0 x1 _ h=>zK (x0,x1,()) h
theorem o11 (hF:zr Try.prog D σ) (H:H11 D σ F):(e11 F).Ok Try.prog:=okZ (f:=11) Try.func11 fun ⟨x0,x1,_⟩ y hy=>cR hF Try.func11 c11 (t11 H x0 x1 _ ⟨rfl,rfl⟩ hy)
def zsQ:AC:=(.seq (rr [jv 3 (.fld (.t 1) 0 0),jv 4 (.load .p (.t 3)),jk 5 4,jm 2 5]) .ret)
def A57:AC:=(.seq (.reg [.clr [1]] [jx 1 (.box (.t 0)),jv 2 (.mov (jn 0))] []) zsQ)
def zvH:List An:=[⟨0,[.clr [1]],[],[],[]⟩]
theorem c57:cq Try.prog Try.f57 zvH=some A57:=by kernel_rfl
structure H57 (D:Den) (σ:Sig) (F:Nat):Prop where
 mk ::
abbrev R57 (r:Int):(Nat→V)→Prop:=RR Try.prog [.tmp 2] 0 false (Enc.enc (r:Int))
section
variable {r:Int}
def Ze (F:Nat) (x1:(S1 LI)):Option Int:=
 some (x1.a.length:Int)
theorem t57 (H:H57 D σ F) (x1:(S1 LI)) (s:Nat→V) (hs:zk [(0,.agg [eL x1.a])] s) (h:Ze F x1=some r):Run D σ (R57 r) (.run A57 []) s:=by
 unfold Ze at h
 have h0:=hs
 refine .seq (zo (zT ?_))
 refine ez [(0,_),(1,_)] ⟨za h0 rfl (zF (ze me zm)),zb rfl⟩ ?_
 rintro s ⟨h0,h1⟩
 refine xo (.agg [eL x1.a]) (zx h0 rfl) h1 rfl (g0 (ji 0) fun h2=>gq (.nsq (.seq (rg (g1 1 (.ref (.bx 1) 0 [0] (eL x1.a)) (rf (.ref (.bx 1) 0 [] (.agg [eL x1.a]))) fun h3=>g1 3 (eL x1.a) h3 fun h4=>gl x1.a h4 fun h5=>gm h5 fun h2=>gq (.nsq (.ret ?_)))))))
 obtain rfl:=oi h
 exact rrA (zf h2) rfl
end
def e57 (F:Nat):Ent:=ent 57 (fun (x:((S1 LI)×Unit))=>Ze F x.1) (fun (r:Int)=>(Enc.enc (r:Int))) 0 false []
abbrev C57 (D:List V→Option V) (F:Nat):Prop:=∀ (x0:(S1 LI)) r,Ze F x0=some r→D [Enc.enc x0]=some (Enc.enc (r:Int))
theorem p57 {F:Nat}:C57 (e57 F).den F:=fun x0 _ h=>zK (x0,()) h
theorem o57 (hF:zr Try.prog D σ) (H:H57 D σ F):(e57 F).Ok Try.prog:=okZ (f:=57) Try.func57 fun ⟨x0,_⟩ y hy=>cR hF Try.func57 c57 (t57 H x0 _ rfl hy)
def ztt:AC:=(.seq (rr [jm 5 0,jm 6 1,jx 7 (.call (jf 25) [.t 5,.t 6]),jv 8 (.bin .geq (.t 7) (jn 0)),jm 4 8]) .ret)
def A58:AC:=(.seq (rr [jv 4 (.mov kf)]) ztt)
def zuV:List An:=[]
theorem c58:cq Try.prog Try.f58 zuV=some A58:=by kernel_rfl
structure H58 (D:Den) (σ:Sig) (F:Nat):Prop where
 c25:C25 (D 25) F
 g25:σ 25=some (0,false)
abbrev R58 (r:Bool):(Nat→V)→Prop:=RR Try.prog [.tmp 4] 0 false (Enc.enc (r:Bool))
section
variable {r:Bool}
def xN (F:Nat) (x1:LI) (x2:Int):Option Bool:=
 (wG F x1 x2).bind fun r3=>
 some (decide (r3≥0))
theorem t58 (H:H58 D σ F) (x1:LI) (x2:Int) (s:Nat→V) (hs:zk [(0,eL x1),(1,ji x2)] s) (h:xN F x1 x2=some r):Run D σ (R58 r) (.run A58 []) s:=by
 unfold xN at h
 obtain ⟨h0,h1⟩:=hs
 refine .seq (rg (g0 (jb false) fun h4=>gq (.nsq (.seq (rg (gm h0 fun h5=>gm h1 fun h6=>?_))))))
 obtain ⟨r3,Er3,h⟩:=bind_some h
 refine zy (m:=0) (al:=false) (r:=Enc.enc (r3:Int)) [eL x1,Enc.enc (x2:Int)] (zc (v:=eL x1) h5 rfl (Enc.erase_enc (x1:LI)) (zc (v:=ji x2) h6 rfl rfl zp)) (H.c25 _ _ _ Er3) H.g25 rfl rfl rfl rfl (g1 7 (jb (decide (r3≥0))) (rf (ji r3)) fun h8=>gm h8 fun h4=>gq (.nsq (.ret ?_)))
 obtain rfl:=oi h
 exact rrA (zf h4) rfl
end
def e58 (F:Nat):Ent:=ent 58 (fun (x:(LI×Int×Unit))=>xN F x.1 x.2.1) (fun (r:Bool)=>(Enc.enc (r:Bool))) 0 false []
abbrev C58 (D:List V→Option V) (F:Nat):Prop:=∀ (x0:LI) (x1:Int) r,xN F x0 x1=some r→D [Enc.enc x0,Enc.enc x1]=some (Enc.enc (r:Bool))
theorem p58 {F:Nat}:C58 (e58 F).den F:=fun x0 x1 _ h=>zK (x0,x1,()) h
theorem o58 (hF:zr Try.prog D σ) (H:H58 D σ F):(e58 F).Ok Try.prog:=okZ (f:=58) Try.func58 fun ⟨x0,x1,_⟩ y hy=>cR hF Try.func58 c58 (t58 H x0 x1 _ ⟨rfl,rfl⟩ hy)
def zoD:AC:=(.seq (rr [jv 7 (.fld (.t 3) 0 0),jv 8 (.load .p (.t 7)),jm 9 1,jv 10 (.idx (.t 8) (.t 9) 1),jl 11 10,jm 12 2,jv 13 (.bin .shr (.t 11) (.t 12)),jv 14 (.bin .and (.t 13) (jn 1)),jv 15 (.bin .eql (.t 14) (jn 1)),jm 6 15]) .ret)
def A59:AC:=(.seq (.reg [.clr [3]] [jx 3 (.box (.t 0)),jv 6 (.mov kf)] []) zoD)
def zvv:List An:=[⟨0,[.clr [3]],[],[],[]⟩]
theorem c59:cq Try.prog Try.f59 zvv=some A59:=by kernel_rfl
structure H59 (D:Den) (σ:Sig) (F:Nat):Prop where
 mk ::
abbrev R59 (r:Bool):(Nat→V)→Prop:=RR Try.prog [.tmp 6] 0 false (Enc.enc (r:Bool))
section
variable {r:Bool}
def Z7 (F:Nat) (x1:(S1 LI)) (x2:Int) (x3:Int):Option Bool:=
 (idx x1.a x2).bind fun v4=>
 (Wk .i64 v4 x3).bind fun q5=>
 some ((yp .i64 q5 1) == 1)
theorem t59 (H:H59 D σ F) (x1:(S1 LI)) (x2:Int) (x3:Int) (s:Nat→V) (hs:zk [(0,.agg [eL x1.a]),(1,ji x2),(2,ji x3)] s) (h:Z7 F x1 x2 x3=some r):Run D σ (R59 r) (.run A59 []) s:=by
 unfold Z7 at h
 obtain ⟨h0,h1,h2⟩:=hs
 refine .seq (zo (zT ?_))
 refine ez [(0,_),(1,_),(2,_),(3,_)] ⟨za h0 rfl (zF (ze me zm)),za h1 rfl mi,za h2 rfl mi,zb rfl⟩ ?_
 rintro s ⟨h0,h1,h2,h3⟩
 refine xo (.agg [eL x1.a]) (zx h0 rfl) h3 rfl (g0 (jb false) fun h6=>gq (.nsq (.seq (rg (g1 3 (.ref (.bx 3) 0 [0] (eL x1.a)) (rf (.ref (.bx 3) 0 [] (.agg [eL x1.a]))) fun h7=>g1 7 (eL x1.a) h7 fun h8=>gm h1 fun h9=>?_)))))
 obtain ⟨v4,Ev4,h⟩:=bind_some h
 refine gv (.ref .sh 0 [] (ji v4)) (yq (t:=.sh) (lo:=0) (xs:=x1.a) h8 h9 Ev4 rfl rfl) fun h10=>g1 10 (ji v4) h10 fun h11=>gm h2 fun h12=>?_
 obtain ⟨q5,Eq5,h⟩:=bind_some h
 refine gv (ji q5) (YA h11 h12 Eq5) fun h13=>g1 13 (ji (yp .i64 q5 1)) h13 fun h14=>g1 14 (jb ((yp .i64 q5 1) == 1)) h14 fun h15=>gm h15 fun h6=>gq (.nsq (.ret ?_))
 obtain rfl:=oi h
 exact rrA (zf h6) rfl
end
def e59 (F:Nat):Ent:=ent 59 (fun (x:((S1 LI)×Int×Int×Unit))=>Z7 F x.1 x.2.1 x.2.2.1) (fun (r:Bool)=>(Enc.enc (r:Bool))) 0 false []
abbrev C59 (D:List V→Option V) (F:Nat):Prop:=∀ (x0:(S1 LI)) (x1:Int) (x2:Int) r,Z7 F x0 x1 x2=some r→D [Enc.enc x0,Enc.enc x1,Enc.enc x2]=some (Enc.enc (r:Bool))
theorem p59 {F:Nat}:C59 (e59 F).den F:=fun x0 x1 x2 _ h=>zK (x0,x1,x2,()) h
theorem o59 (hF:zr Try.prog D σ) (H:H59 D σ F):(e59 F).Ok Try.prog:=okZ (f:=59) Try.func59 fun ⟨x0,x1,x2,_⟩ y hy=>cR hF Try.func59 c59 (t59 H x0 x1 x2 _ ⟨rfl,rfl,rfl⟩ hy)
shelf_lay Lays2.n15 Nm2 15 at Try as Lay60o
structure zwe (D:Den) (σ:Sig) (F:Nat):Prop where
 mk ::
def wK (F:Nat) (s1:LI):Option (NL Int):=
 cloneO s1
def zmC (F:Nat):Ent:=ent 1000000060 (fun (x:(LI×Unit))=>wK F x.1) (fun (r:(NL Int))=>(zj .sh (r:NL Int))) 1 false []
theorem zv0 {F:Nat} {x0:LI} {r:(NL Int)} (h:wK F x0=some r):(zmC F).den [Enc.enc x0]=some (zj .sh (r:NL Int)):=zia (f:=fun (x:(LI×Unit))=>wK F x.1) (t:=fun (r:(NL Int))=>(zj .sh (r:NL Int))) (x0,()) h
theorem zvJ {D:Den} {σ:Sig} {F:Nat} (hF:zr Try.prog D σ) (H:zwe D σ F):(zmC F).Ok Try.prog:=by
 refine Ln (f:=60) (show unk 1000000060=60 from rfl) (fun args r h=>?_) ⟨Try.f60,Try.func60,rfl,rfl⟩
 obtain ⟨⟨x0,_⟩,y,rfl,hy,rfl⟩:=Wc h
 exact con_plain (f:=60) (clone_conO Lay60o hy) rfl
def zlZ:AC:=(.cond (.t 37) .skip (.exit 2))
def znK:AC:=(rr [jm 38 10,jv 39 (.bin .add (.t 38) (jn 1)),jm 10 39])
def zlH:AC:=(.seq (.block 3 (rr [jv 40 (.load (.ag [.p]) (.t 3)),jm 41 2,jm 42 10,jv 43 (.idx (.t 41) (.t 42) 1),jl 44 43,jm 45 8,jx 46 (.call (jf 59) [.t 40,.t 44,.t 45]),jv 47 (.un .not (.t 46)),jm 9 47])) znK)
def Qd:AC:=(.seq (.seq (rr [jm 29 10,jm 30 2,jk 31 30,jm 32 1,jv 33 (.bin .sub (.t 31) (.t 32)),jv 34 (.bin .lss (.t 29) (.t 33)),jm 35 34,jg 36 35 true (.mov (.t 9)),jv 37 (.pick (.t 35) (.t 36) kf)]) zlZ) zlH)
def zsb:AC:=(.block 2 (.loop Qd))
def zmq:AC:=(.cond (.t 49) (.exit 1) .skip)
def znp:AC:=(.cond (.t 61) (.seq (rr [jm 62 11,jm 6 62,jv 7 (.mov kt)]) .ret) .skip)
def zmE:AC:=(.seq (rr [jm 61 12]) znp)
def zm6:AC:=(.seq (.reg [.clr [54,56,57]] [jv 51 (.load (.ag [.p]) (.t 3)),jm 52 1,jm 53 2,jy 54 (.callO (jf 60) [.t 53]),jm 55 8,jx 56 (.lit i0 1 [(0,0,.t 55)]),jy 57 (.appS .s (.t 54) (.t 56)),jx 58 (.call (jf 32) [.t 51,.t 52,.t 57]),jm 50 58,jv 59 (.ext (.t 50) 0),jv 60 (.extS (.t 50) 1),jm 11 59,jm 12 60] []) zmE)
def zal:AC:=(.seq (.seq (rr [jm 48 9,jv 49 (.un .not (.t 48))]) zmq) zm6)
def zpi:AC:=(.seq (.seq (rr [jv 10 (.mov (jn 0))]) zsb) zal)
def zux:AC:=(.seq (rr [jm 25 2,jm 26 8,jx 27 (.call (jf 58) [.t 25,.t 26]),jv 28 (.un .not (.t 27)),jm 9 28]) zpi)
def Q8:AC:=(rr [jv 63 (.bin .add (.t 22) (jn 1)),jm 22 63])
def zoQ:AC:=(.seq (.block 1 (.seq (rr [jm 24 22,jm 8 24]) zux)) Q8)
def ztH:AC:=(.seq (.cond (.t 23) .skip (.exit 0)) zoQ)
def Jy:AC:=(.seq (rr [jv 23 (.bin .lss (.t 22) (.t 21))]) ztH)
def JI:AC:=(.seq (rr [jv 6 (.mov (.k (.sl .nl .s 0 []))),jv 7 (.mov kf)]) .ret)
def znH:AC:=(.cond (.t 17) (.seq (rr [jm 18 2,jm 6 18,jv 7 (.mov kt)]) .ret) .skip)
def znY:AC:=(.block 0 (.loop Jy))
def zn8:AC:=(.seq (.seq (rr [jv 19 (.fld (.t 3) 0 0),jv 20 (.load .p (.t 19)),jk 21 20,jv 22 (.mov (jn 0))]) znY) JI)
def znh:AC:=(.seq (.seq (rr [jm 13 2,jk 14 13,jv 15 (.load (.ag [.p]) (.t 3)),jx 16 (.call (jf 57) [.t 15]),jv 17 (.bin .eql (.t 14) (.t 16))]) znH) zn8)
def A32:AC:=(.seq (.reg [.clr [3]] [jx 3 (.box (.t 0)),jv 6 (.mov (.k (.sl .nl .s 0 []))),jv 7 (.mov kf)] []) znh)
def zvK:List An:=[⟨0,[.clr [3]],[],[],[]⟩,⟨12,[.clr [54,56,57]],[3,6],[6,1003],[]⟩]
theorem c32:cq Try.prog Try.f32 zvK=some A32:=by kernel_rfl
structure H32 (D:Den) (σ:Sig) (F:Nat) (rc:(S1 LI)→Int→LI→Option (LI×Bool)):Prop where
 c57:C57 (D 57) F
 g57:σ 57=some (0,false)
 c58:C58 (D 58) F
 g58:σ 58=some (0,false)
 c59:C59 (D 59) F
 g59:σ 59=some (0,false)
 c60o:∀ (x0:LI) r,wK F x0=some r→D 1000000060 [Enc.enc x0]=some (zj .sh (r:NL Int))
 g60o:σ 1000000060=some (1,false)
 c32:∀ (x0:(S1 LI)) (x1:Int) (x2:LI) r,rc x0 x1 x2=some r→D 32 [Enc.enc x0,Enc.enc x1,Enc.enc x2]=some (.tup [eL r.1,Enc.enc (r.2:Bool)])
 g32:σ 32=some (0,true)
abbrev R32 (r:(LI×Bool)):(Nat→V)→Prop:=RR Try.prog [.tmp 6,.tmp 7] 0 true (.tup [eL r.1,Enc.enc (r.2:Bool)])
section
variable {rc:(S1 LI)→Int→LI→Option (LI×Bool)} {r:(LI×Bool)}
def xE (F:Nat) (rc:(S1 LI)→Int→LI→Option (LI×Bool)) (x2:Int) (x3:LI) (x1:(S1 LI)) (x20:Int) (x40:Bool) (x41:Int) (c1:Int→Option (LI×Bool)) (c4:Bool→Int→Option (LI×Bool)) (x45:Bool):Option (LI×Bool):=
 bif x45 then
  (idx x3 x41).bind fun v46=>
  (Z7 F x1 v46 x20).bind fun r47=>
  c4 (!r47) (w64 (x41 + 1))
 else
  bif (!x40) then
   c1 (w64 (x20 + 1))
  else
   (wK F x3).bind fun r48=>
   (wJ r48.list [x20]).bind fun ap49=>
   (rc x1 x2 ap49).bind fun r50=>
   bif r50.2 then
    some (r50.1,true)
   else
    c1 (w64 (x20 + 1))
theorem zbC (H:H32 D σ F rc) (x2:Int) (x3:LI) (x1:(S1 LI)) (x20:Int) (x40:Bool) (x41:Int) (c1:Int→Option (LI×Bool)) (Hc1:∀ (x20:Int) (s:Nat→V),zk [(1,ji x2),(2,eL x3),(3,.ref (.bx 3) 0 [] (.agg [eL x1.a])),(6,nI),(7,jb false),(21,ji (x1.a.length:Int)),(22,ji x20)] s→c1 x20=some r→Run D σ (R32 r) (.run Jy [.lp Jy,.bk 0,.sq JI]) s) (c4:Bool→Int→Option (LI×Bool)) (Hc4:∀ (x40:Bool) (x41:Int) (s:Nat→V),zk [(1,ji x2),(2,eL x3),(3,.ref (.bx 3) 0 [] (.agg [eL x1.a])),(6,nI),(7,jb false),(8,ji x20),(9,jb x40),(10,ji x41),(21,ji (x1.a.length:Int)),(22,ji x20)] s→c4 x40 x41=some r→Run D σ (R32 r) (.run Qd [.lp Qd,.bk 2,.sq zal,.bk 1,.sq Q8,.lp Jy,.bk 0,.sq JI]) s) (x45:Bool) (s:Nat→V) (hs:zk [(1,ji x2),(2,eL x3),(3,.ref (.bx 3) 0 [] (.agg [eL x1.a])),(6,nI),(7,jb false),(8,ji x20),(9,jb x40),(10,ji x41),(21,ji (x1.a.length:Int)),(22,ji x20),(37,jb x45)] s) (h:xE F rc x2 x3 x1 x20 x40 x41 c1 c4 x45=some r):Run D σ (R32 r) (.nrm [.sq zlZ,.sq zlH,.lp Qd,.bk 2,.sq zal,.bk 1,.sq Q8,.lp Jy,.bk 0,.sq JI]) s:=by
 unfold xE at h
 obtain ⟨h1,h2,h3,h6,h7,h8,h9,h10,h21,h22,h37⟩:=hs
 refine .nsq (zg h37 h (fun h=>?_) (fun h=>?_))
 · refine .skip (.nsq (.seq (.block (rg (g1 3 (.agg [eL x1.a]) h3 fun h40=>gm h2 fun h41=>gm h10 fun h42=>?_)))))
   obtain ⟨v46,Ev46,h⟩:=bind_some h
   refine gv (.ref .sh 0 [] (ji v46)) (yq (t:=.sh) (lo:=0) (xs:=x3) h41 h42 Ev46 rfl rfl) fun h43=>g1 43 (ji v46) h43 fun h44=>gm h8 fun h45=>?_
   obtain ⟨r47,Er47,h⟩:=bind_some h
   refine zy (m:=0) (al:=false) (r:=Enc.enc (r47:Bool)) [Enc.enc (x1:(S1 LI)),Enc.enc (v46:Int),Enc.enc (x20:Int)] (zc (v:=.agg [eL x1.a]) h40 rfl (Enc.erase_enc (x1:(S1 LI))) (zc (v:=ji v46) h44 rfl rfl (zc (v:=ji x20) h45 rfl rfl zp))) (H.c59 _ _ _ _ Er47) H.g59 rfl rfl rfl rfl (g1 46 (jb (!r47)) (rf (jb r47)) fun h47=>gm h47 fun h9=>gq (.nbk (.nsq (rg (gm h10 fun h38=>g1 38 (ji (w64 (x41 + 1))) h38 fun h39=>gm h39 fun h10=>gz [(1,_),(2,_),(3,_),(6,_),(7,_),(8,_),(9,_),(10,_),(21,_),(22,_)] ⟨h1,h2,h3,h6,h7,h8,h9,h10,h21,h22⟩ ?_)))))
   rintro s ⟨h1,h2,h3,h6,h7,h8,h9,h10,h21,h22⟩
   refine .nlp ?_
   exact Hc4 (!r47) (w64 (x41 + 1)) _ ⟨h1,h2,h3,h6,h7,h8,h9,h10,h21,h22⟩ h
 refine .exit (.esq (.elp (.ebk (.nsq (.seq (.seq (rg (gm h9 fun h48=>g1 48 (jb (!x40)) h48 fun h49=>gq (.nsq (zg h49 h (fun h=>?_) (fun h=>?_)))))))))))
 · refine .exit (.esq (.ebk (.nsq (rg (g1 22 (ji (w64 (x20 + 1))) h22 fun h63=>gm h63 fun h22=>gq (.nlp ?_))))))
   exact Hc1 (w64 (x20 + 1)) _ ⟨h1,h2,h3,h6,h7,h21,h22⟩ h
 refine .skip (.nsq (.seq (zo (zT ?_))))
 refine ez [(1,_),(2,_),(3,_),(6,_),(7,_),(8,_),(21,_),(22,_),(54,_),(56,_),(57,_)] ⟨za h1 rfl mi,za h2 rfl me,za h3 rfl (zi rfl (zF (ze me zm))),za h6 rfl rfl,za h7 rfl mb,za h8 rfl mi,za h21 rfl mi,za h22 rfl mi,zb rfl,zb rfl,zb rfl⟩ ?_
 rintro s ⟨h1,h2,h3,h6,h7,h8,h21,h22,h54,h56,h57⟩
 refine g1 3 (.agg [eL x1.a]) h3 fun h51=>gm h1 fun h52=>gm h2 fun h53=>?_
 obtain ⟨r48,Er48,h⟩:=bind_some h
 refine zb8 (m:=1) (al:=false) (r:=zj .sh (r48:NL Int)) (o:=(r48:NL Int)) (kk:=1000000060) [eL x3] (zc (v:=eL x3) h53 rfl (Enc.erase_enc (x3:LI)) zp) (H.c60o _ _ Er48) H.g60o rfl Zv Yw h54 (gm h8 fun h55=>xq [(55,ji x20)] [Enc.enc (x20:Int)] h55 rfl rfl h56 ?_)
 obtain ⟨ap49,Eap49,h⟩:=bind_some h
 refine zen (o:=(r48:NL Int)) (ys:=([x20]:LI)) (t2:=.at 56 []) (lo2:=0) rfl rfl rfl h57 (by simp) Eap49 (fun s7 hl_7=>?_)
 obtain ⟨r50,Er50,h⟩:=bind_some h
 refine zap (rl:=57) (m:=0) (al:=true) (r:=.tup [eL r50.1,Enc.enc (r50.2:Bool)]) [Enc.enc (x1:(S1 LI)),Enc.enc (x2:Int),eL ap49] (by exact (zc (v:=.agg [eL x1.a]) (show s7 51=(.agg [eL x1.a]) from (hl_7 51 (by decide)).trans h51) rfl (Enc.erase_enc (x1:(S1 LI))) (zc (v:=ji x2) (show s7 52=(ji x2) from (hl_7 52 (by decide)).trans h52) rfl rfl (zda (r:=57) (v:=oI 57 [] (.of ap49)) rfl (Zg (o:=.of ap49)) zp)))) (H.c32 _ _ _ _ Er50) H.g32 (by exact (X0 (vp (v:=.agg [eL x1.a]) (show s7 51=(.agg [eL x1.a]) from (hl_7 51 (by decide)).trans h51) rfl rfl (vp (v:=ji x2) (show s7 52=(ji x2) from (hl_7 52 (by decide)).trans h52) rfl rfl (zdN (r:=57) (o:=(.of ap49:NL Int)) rfl XO))))) rfl rfl rfl ?_
 refine gm (rf (.tup [eL r50.1,jb r50.2])) fun h50=>g1 50 (eL r50.1) h50 fun h59=>g1 50 (jb r50.2) h50 fun h60=>?_
 refine gm h59 fun h11=>gm h60 fun h12=>gz [(1,_),(2,_),(3,_),(6,_),(7,_),(11,_),(12,_),(21,_),(22,_)] ⟨(show s7 1=(ji x2) from (hl_7 1 (by decide)).trans h1),(show s7 2=(eL x3) from (hl_7 2 (by decide)).trans h2),(show s7 3=(.ref (.bx 3) 0 [] (.agg [eL x1.a])) from (hl_7 3 (by decide)).trans h3),(show s7 6=nI from (hl_7 6 (by decide)).trans h6),(show s7 7=(jb false) from (hl_7 7 (by decide)).trans h7),h11,h12,(show s7 21=(ji (x1.a.length:Int)) from (hl_7 21 (by decide)).trans h21),(show s7 22=(ji x20) from (hl_7 22 (by decide)).trans h22)⟩ ?_
 rintro s ⟨h1,h2,h3,h6,h7,h11,h12,h21,h22⟩
 refine .nsq (.seq (rg (gm h12 fun h61=>gq (.nsq (zg h61 h (fun h=>?_) (fun h=>?_))))))
 · refine .seq (rg (gm h11 fun h62=>gm h62 fun h6=>g0 (jb true) fun h7=>gq (.nsq (.ret ?_))))
   obtain rfl:=oi h
   exact rrB (zf h6) (zf h7) (xS (wH (zP (yz (x:=(r50.1:LI))) (zP (yz (x:=(true:Bool))) xA))))
 refine .skip (.nbk (.nsq (rg (g1 22 (ji (w64 (x20 + 1))) h22 fun h63=>gm h63 fun h22=>gq (.nlp ?_)))))
 exact Hc1 (w64 (x20 + 1)) _ ⟨h1,h2,h3,h6,h7,h21,h22⟩ h
def yH (F:Nat) (rc:(S1 LI)→Int→LI→Option (LI×Bool)) (x2:Int) (x3:LI) (x1:(S1 LI)) (x20:Int) (c1:Int→Option (LI×Bool)):Nat→Bool→Int→Option (LI×Bool)
 | 0,_,_=>none
 | k + 1,x40,x41=>
   bif decide (x41 < (w64 ((x3.length:Int) - x2))) then
    xE F rc x2 x3 x1 x20 x40 x41 c1 (yH F rc x2 x3 x1 x20 c1 k) x40
   else
    xE F rc x2 x3 x1 x20 x40 x41 c1 (yH F rc x2 x3 x1 x20 c1 k) false
theorem zjA (H:H32 D σ F rc) (x2:Int) (x3:LI) (x1:(S1 LI)) (x20:Int) (c1:Int→Option (LI×Bool)) (Hc1:∀ (x20:Int) (s:Nat→V),zk [(1,ji x2),(2,eL x3),(3,.ref (.bx 3) 0 [] (.agg [eL x1.a])),(6,nI),(7,jb false),(21,ji (x1.a.length:Int)),(22,ji x20)] s→c1 x20=some r→Run D σ (R32 r) (.run Jy [.lp Jy,.bk 0,.sq JI]) s):∀ (k:Nat) (x40:Bool) (x41:Int) (s:Nat→V),zk [(1,ji x2),(2,eL x3),(3,.ref (.bx 3) 0 [] (.agg [eL x1.a])),(6,nI),(7,jb false),(8,ji x20),(9,jb x40),(10,ji x41),(21,ji (x1.a.length:Int)),(22,ji x20)] s→yH F rc x2 x3 x1 x20 c1 k x40 x41=some r→Run D σ (R32 r) (.run Qd [.lp Qd,.bk 2,.sq zal,.bk 1,.sq Q8,.lp Jy,.bk 0,.sq JI]) s:=by
 intro k
 induction k with
 | zero=>intro x40 x41 s _ h;exact nm h
 | succ k ih=>
   intro x40 x41 s hs h
   rw [yH] at h
   obtain ⟨h1,h2,h3,h6,h7,h8,h9,h10,h21,h22⟩:=hs
   refine .seq (.seq (rg (gm h10 fun h29=>gm h2 fun h30=>gl x3 h30 fun h31=>gm h1 fun h32=>g2 31 32 (ji (w64 ((x3.length:Int) - x2))) h31 h32 fun h33=>g2 29 33 (jb (decide (x41 < (w64 ((x3.length:Int) - x2))))) h29 h33 fun h34=>gm h34 fun h35=>zU h (fun hg7 h=>?_) (fun hg7 h=>?_))))
   · refine zh (ct h35 hg7) (gm h9 fun h36=>g2 35 36 (jb x40) (ct h35 hg7) h36 fun h37=>gq ?_)
     exact zbC H x2 x3 x1 x20 x40 x41 c1 Hc1 (yH F rc x2 x3 x1 x20 c1 k) ih x40 _ ⟨h1,h2,h3,h6,h7,h8,h9,h10,h21,h22,h37⟩ h
   refine zw (ct h35 hg7) (g2 35 36 (jb false) (ct h35 hg7) (rf (.tup [])) fun h37=>gq ?_)
   exact zbC H x2 x3 x1 x20 x40 x41 c1 Hc1 (yH F rc x2 x3 x1 x20 c1 k) ih false _ ⟨h1,h2,h3,h6,h7,h8,h9,h10,h21,h22,h37⟩ h
def xl (F:Nat) (rc:(S1 LI)→Int→LI→Option (LI×Bool)) (x2:Int) (x3:LI) (x1:(S1 LI)) :Nat→Int→Option (LI×Bool)
 | 0,_=>none
 | k + 1,x20=>
   bif decide (x20 < (x1.a.length:Int)) then
    (xN F x3 x20).bind fun r36=>
    yH F rc x2 x3 x1 x20 (xl F rc x2 x3 x1 k) F (!r36) 0
   else
    some ([],false)
theorem zhm (H:H32 D σ F rc) (x2:Int) (x3:LI) (x1:(S1 LI)) :∀ (k:Nat) (x20:Int) (s:Nat→V),zk [(1,ji x2),(2,eL x3),(3,.ref (.bx 3) 0 [] (.agg [eL x1.a])),(6,nI),(7,jb false),(21,ji (x1.a.length:Int)),(22,ji x20)] s→xl F rc x2 x3 x1 k x20=some r→Run D σ (R32 r) (.run Jy [.lp Jy,.bk 0,.sq JI]) s:=by
 intro k
 induction k with
 | zero=>intro x20 s _ h;exact nm h
 | succ k ih=>
   intro x20 s hs h
   rw [xl] at h
   obtain ⟨h1,h2,h3,h6,h7,h21,h22⟩:=hs
   refine .seq (rg (g2 22 21 (jb (decide (x20 < (x1.a.length:Int)))) h22 h21 fun h23=>gq (.nsq (.seq (zg h23 h (fun h=>?_) (fun h=>?_))))))
   · refine .skip (.nsq (.seq (.block (.seq (rg (gm h22 fun h24=>gm h24 fun h8=>gq (.nsq (.seq (rg (gm h2 fun h25=>gm h8 fun h26=>?_))))))))))
     obtain ⟨r36,Er36,h⟩:=bind_some h
     refine zy (m:=0) (al:=false) (r:=Enc.enc (r36:Bool)) [eL x3,Enc.enc (x20:Int)] (zc (v:=eL x3) h25 rfl (Enc.erase_enc (x3:LI)) (zc (v:=ji x20) h26 rfl rfl zp)) (H.c58 _ _ _ Er36) H.g58 rfl rfl rfl rfl (g1 27 (jb (!r36)) (rf (jb r36)) fun h28=>gm h28 fun h9=>gq (.nsq (.seq (.seq (rg (g0 (ji 0) fun h10=>gq (.nsq (.block (.loop ?_)))))))))
     exact zjA H x2 x3 x1 x20 (xl F rc x2 x3 x1 k) ih F (!r36) 0 _ ⟨h1,h2,h3,h6,h7,h8,h9,h10,h21,h22⟩ h
   refine .exit (.esq (.elp (.ebk (.nsq (.seq (rg (g0 nI fun h6=>g0 (jb false) fun h7=>gq (.nsq (.ret ?_)))))))))
   obtain rfl:=oi h
   exact rrB (zf h6) (zf h7) (xS (wH (zP (wl (o:=(.nil:NL Int)) (t:=.nl)) (zP (yz (x:=(false:Bool))) xA))))
def vy (F:Nat) (rc:(S1 LI)→Int→LI→Option (LI×Bool)) (x1:(S1 LI)) (x2:Int) (x3:LI):Option (LI×Bool):=
 (Ze F x1).bind fun r4=>
 bif ((x3.length:Int) == r4) then
  some (x3,true)
 else
  xl F rc x2 x3 x1 F 0
theorem t32 (H:H32 D σ F rc) (x1:(S1 LI)) (x2:Int) (x3:LI) (s:Nat→V) (hs:zk [(0,.agg [eL x1.a]),(1,ji x2),(2,eL x3)] s) (h:vy F rc x1 x2 x3=some r):Run D σ (R32 r) (.run A32 []) s:=by
 unfold vy at h
 obtain ⟨h0,h1,h2⟩:=hs
 refine .seq (zo (zT ?_))
 refine ez [(0,_),(1,_),(2,_),(3,_)] ⟨za h0 rfl (zF (ze me zm)),za h1 rfl mi,za h2 rfl me,zb rfl⟩ ?_
 rintro s ⟨h0,h1,h2,h3⟩
 refine xo (.agg [eL x1.a]) (zx h0 rfl) h3 rfl (g0 nI fun h6=>g0 (jb false) fun h7=>gq (.nsq (.seq (.seq (rg (gm h2 fun h13=>gl x3 h13 fun h14=>g1 3 (.agg [eL x1.a]) (rf (.ref (.bx 3) 0 [] (.agg [eL x1.a]))) fun h15=>?_))))))
 obtain ⟨r4,Er4,h⟩:=bind_some h
 refine zy (m:=0) (al:=false) (r:=Enc.enc (r4:Int)) [Enc.enc (x1:(S1 LI))] (zc (v:=.agg [eL x1.a]) h15 rfl (Enc.erase_enc (x1:(S1 LI))) zp) (H.c57 _ _ Er4) H.g57 rfl rfl rfl rfl (g2 14 16 (jb ((x3.length:Int) == r4)) h14 (rf (ji r4)) fun h17=>gq (.nsq (zg h17 h (fun h=>?_) (fun h=>?_))))
 · refine .seq (rg (gm h2 fun h18=>gm h18 fun h6=>g0 (jb true) fun h7=>gq (.nsq (.ret ?_))))
   obtain rfl:=oi h
   exact rrB (zf h6) (zf h7) (xS (wH (zP (yz (x:=(x3:LI))) (zP (yz (x:=(true:Bool))) xA))))
 refine .skip (.nsq (.seq (.seq (rg (g1 3 (.ref (.bx 3) 0 [0] (eL x1.a)) (rf (.ref (.bx 3) 0 [] (.agg [eL x1.a]))) fun h19=>g1 19 (eL x1.a) h19 fun h20=>gl x1.a h20 fun h21=>g0 (ji 0) fun h22=>gq (.nsq (.block (.loop ?_))))))))
 exact zhm H x2 x3 x1 F 0 _ ⟨h1,h2,rfl,h6,h7,h21,h22⟩ h
end
def y7 (F:Nat):Nat→(S1 LI)→Int→LI→Option (LI×Bool)
 | 0,_,_,_=>none
 | k + 1,x0,x1,x2=>vy F (y7 F k) x0 x1 x2
def ZU (F:Nat) (x0:(S1 LI)) (x1:Int) (x2:LI):Option (LI×Bool):=y7 F F x0 x1 x2
def e32 (F:Nat) (k:Nat):Ent:=ent 32 (fun (x:((S1 LI)×Int×LI×Unit))=>y7 F k x.1 x.2.1 x.2.2.1) (fun (r:(LI×Bool))=>(.tup [eL r.1,Enc.enc (r.2:Bool)])) 0 true []
theorem p32 {F:Nat} {k:Nat} {x0:(S1 LI)} {x1:Int} {x2:LI} {r:(LI×Bool)} (h:y7 F k x0 x1 x2=some r):(e32 F k).den [Enc.enc x0,Enc.enc x1,Enc.enc x2]=some (.tup [eL r.1,Enc.enc (r.2:Bool)]):=zK (x0,x1,x2,()) h
theorem z32 {F:Nat}:(e32 F 0).Ok Try.prog:=by
 refine Ln (f:=32) (show unk 32=32 from rfl) (fun args r h=>?_) ⟨Try.f32,Try.func32,rfl,rfl⟩
 obtain ⟨⟨x0,x1,x2,_⟩,y,rfl,hy,rfl⟩:=Wc h
 cases hy
theorem o32 {D:Den} {σ:Sig} {F k:Nat} (hF:zr Try.prog D σ) (H:H32 D σ F (y7 F k)):(e32 F (k + 1)).Ok Try.prog:=by
 refine Ln (f:=32) (show unk 32=32 from rfl) (fun args r h=>?_) ⟨Try.f32,Try.func32,rfl,rfl⟩
 obtain ⟨⟨x0,x1,x2,_⟩,y,rfl,hy,rfl⟩:=Wc h
 exact Yz hF (by kernel_rfl) Try.func32 rfl c32 (show 3≤Try.f32.ntmps by decide) (t32 H x0 x1 x2 _ ⟨rfl,rfl,rfl⟩ hy)
def zp3:AC:=(.cond (.t 22) (.seq (rr [jm 23 7,jm 24 6,jm 2 23,jm 3 24,jv 4 (.mov kt)]) .ret) .skip)
def zrE:AC:=(.seq (rr [jm 22 8]) zp3)
def zrW:AC:=(rr [jm 14 6,jv 15 (.bin .add (.t 14) (jn 1)),jm 6 15])
def zjP:AC:=(.seq (.block 1 (.seq (rr [jv 17 (.load (.ag [.p]) (.t 5)),jm 18 6,jx 19 (.call (jf 32) [.t 17,.t 18,.k (.sl .nl .s 0 [])]),jm 16 19,jv 20 (.ext (.t 16) 0),jv 21 (.extS (.t 16) 1),jm 7 20,jm 8 21]) zrE)) zrW)
def zsX:AC:=(.cond (.t 11) (.seq (rr [jv 2 (.mov (.k (.sl .nl .s 0 []))),jv 3 (.mov (jn 0)),jv 4 (.mov kf)]) .ret) .skip)
def zqJ:AC:=(.block 0 (.loop zjP))
def zpF:AC:=(.seq (rr [jv 6 (.mov (jn 0))]) zqJ)
def zuf:AC:=(.seq (.reg [.clr [5]] [jv 12 (.load (.ag [.s,.p]) (.t 1)),jx 13 (.call (jf 28) [.t 12]),jx 5 (.alloc (.agg [.sl .nl .s 0 []])),jz (.store (.ag [.p]) (.t 5) (.t 13))] []) zpF)
def zqO:AC:=(.seq (.seq (rr [jv 9 (.load (.ag [.s,.p]) (.t 1)),jx 10 (.call (jf 23) [.t 9]),jv 11 (.un .not (.t 10))]) zsX) zuf)
def A12:AC:=(.seq (.reg [.clr [1]] [jx 1 (.box (.t 0)),jv 2 (.mov (.k (.sl .nl .s 0 []))),jv 3 (.mov (jn 0)),jv 4 (.mov kf)] []) zqO)
def zve:List An:=[⟨0,[.clr [1]],[],[],[]⟩,⟨3,[.clr [5]],[],[],[]⟩]
theorem c12:cq Try.prog Try.f12 zve=some A12:=by kernel_rfl
structure H12 (D:Den) (σ:Sig) (F:Nat):Prop where
 c23:C23 (D 23) F
 g23:σ 23=some (0,false)
 c28:C28 (D 28) F
 g28:σ 28=some (0,false)
 c32:∀ (x0:(S1 LI)) (x1:Int) (x2:LI) r,ZU F x0 x1 x2=some r→D 32 [Enc.enc x0,Enc.enc x1,Enc.enc x2]=some (.tup [eL r.1,Enc.enc (r.2:Bool)])
 g32:σ 32=some (0,true)
abbrev R12 (r:(S3 LI Int Bool)):(Nat→V)→Prop:=RR Try.prog [.tmp 2,.tmp 3,.tmp 4] 0 true (.tup [eL r.a,Enc.enc (r.b:Int),Enc.enc (r.c:Bool)])
section
variable {r:(S3 LI Int Bool)}
def wq (F:Nat) (r3:(S1 LI)) :Nat→Int→Option (S3 LI Int Bool)
 | 0,_=>none
 | k + 1,x5=>
   (ZU F r3 x5 []).bind fun r7=>
   bif r7.2 then
    some (S3.mk r7.1 x5 true)
   else
    (wq F r3 k) (w64 (x5 + 1))
theorem zi6 (H:H12 D σ F) (r3:(S1 LI)) :∀ (k:Nat) (x5:Int) (s:Nat→V),zk [(2,nI),(3,ji 0),(4,jb false),(5,.ref (.bx 5) 0 [] (.agg [eL r3.a])),(6,ji x5)] s→wq F r3 k x5=some r→Run D σ (R12 r) (.run zjP [.lp zjP,.bk 0]) s:=by
 intro k
 induction k with
 | zero=>intro x5 s _ h;exact nm h
 | succ k ih=>
   intro x5 s hs h
   rw [wq] at h
   obtain ⟨h2,h3,h4,h5,h6⟩:=hs
   refine .seq (.block (.seq (rg (g1 5 (.agg [eL r3.a]) h5 fun h17=>gm h6 fun h18=>?_))))
   obtain ⟨r7,Er7,h⟩:=bind_some h
   refine zy (m:=0) (al:=true) (r:=.tup [eL r7.1,Enc.enc (r7.2:Bool)]) [Enc.enc (r3:(S1 LI)),Enc.enc (x5:Int),Enc.enc ([]:LI)] (zc (v:=.agg [eL r3.a]) h17 rfl (Enc.erase_enc (r3:(S1 LI))) (zc (v:=ji x5) h18 rfl rfl (zc (v:=nI) rfl rfl rfl zp))) (H.c32 _ _ _ _ Er7) H.g32 (X0 (vp (v:=.agg [eL r3.a]) h17 rfl rfl (vp (v:=ji x5) h18 rfl rfl (vp (v:=nI) rfl rfl rfl XO)))) rfl rfl rfl (gm (rf (.tup [eL r7.1,jb r7.2])) fun h16=>g1 16 (eL r7.1) h16 fun h20=>g1 16 (jb r7.2) h16 fun h21=>gm h20 fun h7=>gm h21 fun h8=>gq (.nsq (.seq (rg (gm h8 fun h22=>gq (.nsq (zg h22 h (fun h=>?_) (fun h=>?_))))))))
   · refine .seq (rg (gm h7 fun h23=>gm h6 fun h24=>gm h23 fun h2=>gm h24 fun h3=>g0 (jb true) fun h4=>gq (.nsq (.ret ?_))))
     obtain rfl:=oi h
     exact rrC (zf h2) (zf h3) (zf h4) (xS (wH (zP (yz (x:=(r7.1:LI))) (zP (yz (x:=(x5:Int))) (zP (yz (x:=(true:Bool))) xA)))))
   refine .skip (.nbk (.nsq (rg (gm h6 fun h14=>g1 14 (ji (w64 (x5 + 1))) h14 fun h15=>gm h15 fun h6=>gq (.nlp ?_)))))
   exact ih (w64 (x5 + 1)) _ ⟨h2,h3,h4,h5,h6⟩ h
def xU (F:Nat) (x1:GR):Option (S3 LI Int Bool):=
 (xF F x1).bind fun r2=>
 bif (!r2) then
  some (S3.mk [] 0 false)
 else
  (vw F x1).bind fun r3=>
  wq F r3 F 0
theorem t12 (H:H12 D σ F) (x1:GR) (s:Nat→V) (hs:zk [(0,gV x1)] s) (h:xU F x1=some r):Run D σ (R12 r) (.run A12 []) s:=by
 unfold xU at h
 have h0:=hs
 refine .seq (zo (zT ?_))
 refine ez [(0,_),(1,_)] ⟨za h0 rfl mIE,zb rfl⟩ ?_
 rintro s ⟨h0,h1⟩
 refine xo (gV x1) (zx h0 rfl) h1 rfl (g0 nI fun h2=>g0 (ji 0) fun h3=>g0 (jb false) fun h4=>gq (.nsq (.seq (.seq (rg (g1 1 (gV x1) (rf (bG 1 x1)) fun h9=>?_))))))
 obtain ⟨r2,Er2,h⟩:=bind_some h
 refine zy (m:=0) (al:=false) (r:=Enc.enc (r2:Bool)) [Enc.enc (x1:GR)] (zc (v:=gV x1) h9 rfl (Enc.erase_enc (x1:GR)) zp) (H.c23 _ _ Er2) H.g23 rfl rfl rfl rfl (g1 10 (jb (!r2)) (rf (jb r2)) fun h11=>gq (.nsq (zg h11 h (fun h=>?_) (fun h=>?_))))
 · refine .seq (rg (g0 nI fun h2=>g0 (ji 0) fun h3=>g0 (jb false) fun h4=>gq (.nsq (.ret ?_))))
   obtain rfl:=oi h
   exact rrC (zf h2) (zf h3) (zf h4) (xS (wH (zP (wl (o:=(.nil:NL Int)) (t:=.nl)) (zP (yz (x:=(0:Int))) (zP (yz (x:=(false:Bool))) xA)))))
 refine .skip (.nsq (.seq (zo (zT ?_))))
 refine ez [(1,_),(2,_),(3,_),(4,_),(5,_)] ⟨za rfl rfl (zi rfl mIE),za h2 rfl rfl,za h3 rfl mi,za h4 rfl mb,zb rfl⟩ ?_
 rintro s ⟨h1,h2,h3,h4,h5⟩
 refine g1 1 (gV x1) h1 fun h12=>?_
 obtain ⟨r3,Er3,h⟩:=bind_some h
 refine zy (m:=0) (al:=false) (r:=Enc.enc (r3:(S1 LI))) [Enc.enc (x1:GR)] (zc (v:=gV x1) h12 rfl (Enc.erase_enc (x1:GR)) zp) (H.c28 _ _ Er3) H.g28 rfl rfl rfl rfl (wk h5 (yd (.agg [eL r3.a]) (zx rfl rfl) (zx rfl rfl) (ww (by first | rfl | simp [V.toks,V.tokss,Enc.toks_enc,ya])) (gz [(2,nI),(3,ji 0),(4,jb false),(5,.ref (.bx 5) 0 [] (.agg [eL r3.a]))] ⟨zd h2 rfl,zd h3 rfl,zd h4 rfl,zd rfl rfl⟩ ?_)))
 rintro s ⟨h2,h3,h4,h5⟩
 refine .nsq (.seq (rg (g0 (ji 0) fun h6=>gq (.nsq (.block (.loop ?_))))))
 exact zi6 H r3 F 0 _ ⟨h2,h3,h4,h5,h6⟩ h
end
def e12 (F:Nat):Ent:=ent 12 (fun (x:(GR×Unit))=>xU F x.1) (fun (r:(S3 LI Int Bool))=>(.tup [eL r.a,Enc.enc (r.b:Int),Enc.enc (r.c:Bool)])) 0 true []
abbrev C12 (D:List V→Option V) (F:Nat):Prop:=∀ (x0:GR) r,xU F x0=some r→D [Enc.enc x0]=some (.tup [eL r.a,Enc.enc (r.b:Int),Enc.enc (r.c:Bool)])
theorem p12 {F:Nat}:C12 (e12 F).den F:=fun x0 _ h=>zK (x0,()) h
theorem o12 (hF:zr Try.prog D σ) (H:H12 D σ F):(e12 F).Ok Try.prog:=okZ (f:=12) Try.func12 fun ⟨x0,_⟩ y hy=>cR hF Try.func12 c12 (t12 H x0 _ rfl hy)
def zrk:AC:=(.cond (.t 11) .skip (.exit 0))
def zqa:AC:=(.cond (.t 17) (.reg [.clr [20,21]] [jm 18 5,jm 19 6,jx 20 (.lit i0 1 [(0,0,.t 19)]),jx 21 (.app .s (.t 18) (.t 20)),jm 5 21] [.home 21 5]) .skip)
def zlO:AC:=(rr [jm 12 6,jv 13 (.bin .add (.t 12) (jn 1)),jm 6 13])
def ztf:AC:=(.seq (.block 1 (.seq (rr [jv 14 (.load (.ag [.s,.p]) (.t 2)),jm 15 1,jm 16 6,jx 17 (.call (jf 77) [.t 14,.t 15,.t 16])]) zqa)) zlO)
def Qf:AC:=(.seq (.seq (rr [jm 8 6,jv 9 (.fld (.t 2) 0 0),jl 10 9,jv 11 (.bin .lss (.t 8) (.t 10))]) zrk) ztf)
def zfn:AC:=(.seq (.reg [] [jm 22 5,jm 4 22] [.home 5 4]) .ret)
def zuy:AC:=(.block 0 (.loop Qf))
def ztP:AC:=(.seq (.seq (rr [jv 6 (.mov (jn 0))]) zuy) zfn)
def zsa:AC:=(.seq (.reg [.clr [7]] [jx 7 (.lit i0 0 []),jm 5 7] [.home 7 5]) ztP)
def A81:AC:=(.seq (.reg [.clr [2]] [jx 2 (.box (.t 0)),jv 4 (.mov (.k (.sl .nl .s 0 [])))] []) zsa)
def zwd:List An:=[⟨0,[.clr [2]],[],[],[]⟩,⟨1,[.clr [7]],[],[],[.home 7 5]⟩,⟨6,[.clr [20,21]],[],[],[.home 21 5]⟩,⟨7,[],[],[],[.home 5 4]⟩]
theorem c81:cq Try.prog Try.f81 zwd=some A81:=by kernel_rfl
structure H81 (D:Den) (σ:Sig) (F:Nat):Prop where
 c77:C77 (D 77) F
 g77:σ 77=some (0,false)
abbrev R81 (r:LI):(Nat→V)→Prop:=RR Try.prog [.tmp 4] 0 false (eL r)
section
variable {r:LI}
def ug (F:Nat) (x2:Int) (x1:GR) (x8:Int) (c1:LI→Int→Option LI) (x15:LI):Option LI:=
 c1 x15 (w64 (x8 + 1))
theorem zbJ (H:H81 D σ F) (x2:Int) (x1:GR) (x8:Int) (c1:LI→Int→Option LI) (Hc1:∀ (x7:LI) (x8:Int) (s:Nat→V),zk [(1,ji x2),(2,bG 2 x1),(4,nI),(5,oI 5 [] (.of x7)),(6,ji x8)] s→c1 x7 x8=some r→Run D σ (R81 r) (.run Qf [.lp Qf,.bk 0,.sq zfn]) s) (x15:LI) (s:Nat→V) (hs:zk [(1,ji x2),(2,bG 2 x1),(4,nI),(5,oI 5 [] (.of x15)),(6,ji x8)] s) (h:ug F x2 x1 x8 c1 x15=some r):Run D σ (R81 r) (.nrm [.bk 1,.sq zlO,.lp Qf,.bk 0,.sq zfn]) s:=by
 unfold ug at h
 obtain ⟨h1,h2,h4,h5,h6⟩:=hs
 refine .nbk (.nsq (rg (gm h6 fun h12=>g1 12 (ji (w64 (x8 + 1))) h12 fun h13=>gm h13 fun h6=>gq (.nlp ?_))))
 exact Hc1 x15 (w64 (x8 + 1)) _ ⟨h1,h2,h4,h5,h6⟩ h
def xh (F:Nat) (x2:Int) (x1:GR) :Nat→LI→Int→Option LI
 | 0,_,_=>none
 | k + 1,x7,x8=>
   bif decide (x8 < x1.1) then
    (uZ F x1 x2 x8).bind fun r13=>
    bif r13 then
     (wJ x7 [x8]).bind fun ap16=>
     ug F x2 x1 x8 (xh F x2 x1 k) ap16
    else
     ug F x2 x1 x8 (xh F x2 x1 k) x7
   else
    some x7
theorem zgV (H:H81 D σ F) (x2:Int) (x1:GR) :∀ (k:Nat) (x7:LI) (x8:Int) (s:Nat→V),zk [(1,ji x2),(2,bG 2 x1),(4,nI),(5,oI 5 [] (.of x7)),(6,ji x8)] s→xh F x2 x1 k x7 x8=some r→Run D σ (R81 r) (.run Qf [.lp Qf,.bk 0,.sq zfn]) s:=by
 intro k
 induction k with
 | zero=>intro x7 x8 s _ h;exact nm h
 | succ k ih=>
   intro x7 x8 s hs h
   rw [xh] at h
   obtain ⟨h1,h2,h4,h5,h6⟩:=hs
   refine .seq (.seq (rg (gm h6 fun h8=>g1 2 (.ref (.bx 2) 0 [0] (ji x1.1)) h2 fun h9=>g1 9 (ji x1.1) h9 fun h10=>g2 8 10 (jb (decide (x8 < x1.1))) h8 h10 fun h11=>gq (.nsq (zg h11 h (fun h=>?_) (fun h=>?_))))))
   · refine .skip (.nsq (.seq (.block (.seq (rg (g1 2 (gV x1) h2 fun h14=>gm h1 fun h15=>gm h6 fun h16=>?_))))))
     obtain ⟨r13,Er13,h⟩:=bind_some h
     refine zy (m:=0) (al:=false) (r:=Enc.enc (r13:Bool)) [Enc.enc (x1:GR),Enc.enc (x2:Int),Enc.enc (x8:Int)] (zc (v:=gV x1) h14 rfl (Enc.erase_enc (x1:GR)) (zc (v:=ji x2) h15 rfl rfl (zc (v:=ji x8) h16 rfl rfl zp))) (H.c77 _ _ _ _ Er13) H.g77 rfl rfl rfl rfl (gq (.nsq (zg rfl h (fun h=>?_) (fun h=>?_))))
     · refine zo (zT ?_)
       refine ez [(1,_),(2,_),(4,_),(5,_),(6,_),(20,_),(21,_)] ⟨za h1 rfl mi,za h2 rfl (zi rfl mIE),za h4 rfl rfl,za h5 rfl (zl (r:=5) (p:=[]) rfl rfl),za h6 rfl mi,zb rfl,zb rfl⟩ ?_
       rintro s ⟨h1,h2,h4,h5,h6,h20,h21⟩
       refine gm h5 fun h18=>gm h6 fun h19=>xq [(19,ji x8)] [Enc.enc (x8:Int)] h19 rfl rfl h20 ?_
       obtain ⟨ap16,Eap16,h⟩:=bind_some h
       refine Xd (q:=5) (p:=[]) (o:=.of (x7:LI)) (ys:=([x8]:LI)) (t2:=.at 20 []) (lo2:=0) h18 rfl rfl h21 (ZB (o:=.of (x7:LI)) Eap16 trivial) (fun s20 ha20=>gm (rf (oI 21 [] (.of ap16))) fun h5=>yL (yr (r:=21) (x:=5) (v:=_) h5 rfl (fun s21 hz21=>?_)))
       refine ez [(1,ji x2),(2,bG 2 x1),(4,nI),(5,oI 5 [] (.of ap16)),(6,ji x8)] ⟨hz21 1 _ _ (show s20 1=(ji x2) from zL ha20 h1 mi) mi,hz21 2 _ _ (show s20 2=(bG 2 x1) from zL ha20 h2 (zi rfl mIE)) (zi rfl mIE),hz21 4 _ nI (show s20 4=nI from zL ha20 h4 rfl) rfl,hz21 5 _ _ h5 (zl (r:=21) (p:=[]) rfl rfl),hz21 6 _ _ (show s20 6=(ji x8) from zL ha20 h6 mi) mi⟩ ?_
       rintro s ⟨h1,h2,h4,h5,h6⟩
       exact zbJ H x2 x1 x8 (xh F x2 x1 k) ih ap16 _ ⟨h1,h2,h4,h5,h6⟩ h
     refine .skip ?_
     exact zbJ H x2 x1 x8 (xh F x2 x1 k) ih x7 _ ⟨h1,h2,h4,h5,h6⟩ h
   refine .exit (.esq (.elp (.ebk (.nsq (.seq (rg (gm h5 fun h22=>gm h22 fun h4=>yL (yr (r:=5) (x:=4) (v:=_) h4 rfl (fun s22 hz22=>?_)))))))))
   refine ez [(4,oI 4 [] (.of x7))] (hz22 4 _ _ h4 (zl (r:=5) (p:=[]) rfl rfl)) ?_
   rintro s h4
   refine .nsq (.ret ?_)
   obtain rfl:=oi h
   exact rrA (zf h4) (ud (wl (o:=.of x7)) (wx rfl))
def vM (F:Nat) (x1:GR) (x2:Int):Option LI:=
 xh F x2 x1 F [] 0
theorem t81 (H:H81 D σ F) (x1:GR) (x2:Int) (s:Nat→V) (hs:zk [(0,gV x1),(1,ji x2)] s) (h:vM F x1 x2=some r):Run D σ (R81 r) (.run A81 []) s:=by
 unfold vM at h
 obtain ⟨h0,h1⟩:=hs
 refine .seq (zo (zT ?_))
 refine ez [(0,_),(1,_),(2,_)] ⟨za h0 rfl mIE,za h1 rfl mi,zb rfl⟩ ?_
 rintro s ⟨h0,h1,h2⟩
 refine xo (gV x1) (zx h0 rfl) h2 rfl (g0 nI fun h4=>gq (.nsq (.seq (zo (zT ?_)))))
 refine ez [(1,_),(2,_),(4,_),(7,_)] ⟨za h1 rfl mi,za rfl rfl (zi rfl mIE),za h4 rfl rfl,zb rfl⟩ ?_
 rintro s ⟨h1,h2,h4,h7⟩
 refine xq [] [] trivial rfl rfl h7 (gm (rf (oI 7 [] (.of []))) fun h5=>yL (yr (r:=7) (x:=5) (v:=_) h5 rfl (fun s3 hz3=>?_)))
 refine ez [(1,ji x2),(2,bG 2 x1),(4,nI),(5,oI 5 [] (.of []))] ⟨hz3 1 _ _ h1 mi,hz3 2 _ _ h2 (zi rfl mIE),hz3 4 _ _ h4 rfl,hz3 5 _ _ h5 (zl (r:=7) (p:=[]) rfl rfl)⟩ ?_
 rintro s ⟨h1,h2,h4,h5⟩
 refine .nsq (.seq (.seq (rg (g0 (ji 0) fun h6=>gq (.nsq (.block (.loop ?_)))))))
 exact zgV H x2 x1 F [] 0 _ ⟨h1,h2,h4,h5,h6⟩ h
end
def e81 (F:Nat):Ent:=ent 81 (fun (x:(GR×Int×Unit))=>vM F x.1 x.2.1) (fun (r:LI)=>(eL r)) 0 false []
abbrev C81 (D:List V→Option V) (F:Nat):Prop:=∀ (x0:GR) (x1:Int) r,vM F x0 x1=some r→D [Enc.enc x0,Enc.enc x1]=some (eL r)
theorem p81 {F:Nat}:C81 (e81 F).den F:=fun x0 x1 _ h=>zK (x0,x1,()) h
theorem o81 (hF:zr Try.prog D σ) (H:H81 D σ F):(e81 F).Ok Try.prog:=okZ (f:=81) Try.func81 fun ⟨x0,x1,_⟩ y hy=>cR hF Try.func81 c81 (t81 H x0 x1 _ ⟨rfl,rfl⟩ hy)
def zoy:AC:=(.cond (.t 14) .skip (.exit 0))
def zoH:AC:=(.cond (.t 26) .skip (.exit 2))
def zoo:AC:=(.cond (.t 36) (rr [jm 37 1,jm 38 8,jm 39 9,jv 40 (.idx (.t 38) (.t 39) 1),jl 41 40,jx 42 (.call (jf 56) [.t 37,.t 41]),jm 10 42]) .skip)
def znI:AC:=(.cond (.t 47) (.seq (rr [jv 6 (.mov kf)]) .ret) .skip)
def zg0:AC:=(.seq (rr [jm 43 10,jm 44 7,jv 45 (.bin .sub (.t 43) (.t 44)),jm 46 2,jv 47 (.bin .gtr (.t 45) (.t 46))]) znI)
def zsD:AC:=(.seq (.seq (rr [jm 31 1,jm 32 8,jm 33 9,jv 34 (.idx (.t 32) (.t 33) 1),jl 35 34,jx 36 (.call (jf 64) [.t 31,.t 35])]) zoo) zg0)
def zhD:AC:=(rr [jm 27 9,jv 28 (.bin .add (.t 27) (jn 1)),jm 9 28])
def zpR:AC:=(.seq (.block 3 (.seq (rr [jm 29 1,jk 30 29,jm 10 30]) zsD)) zhD)
def NG:AC:=(.seq (.seq (rr [jm 23 9,jm 24 8,jk 25 24,jv 26 (.bin .lss (.t 23) (.t 25))]) zoH) zpR)
def zsd:AC:=(.block 2 (.loop NG))
def zp8:AC:=(.seq (rr [jv 9 (.mov (jn 0))]) zsd)
def za0:AC:=(rr [jm 15 7,jv 16 (.bin .add (.t 15) (jn 1)),jm 7 16])
def ztk:AC:=(.seq (.block 1 (.seq (rr [jv 17 (.load (.ag [.s,.p]) (.t 3)),jm 18 1,jm 19 7,jv 20 (.idx (.t 18) (.t 19) 1),jl 21 20,jx 22 (.call (jf 81) [.t 17,.t 21]),jm 8 22]) zp8)) za0)
def Jx:AC:=(.seq (.seq (rr [jm 11 7,jm 12 1,jk 13 12,jv 14 (.bin .lss (.t 11) (.t 13))]) zoy) ztk)
def JQ:AC:=(.seq (rr [jv 6 (.mov kt)]) .ret)
def zmF:AC:=(.block 0 (.loop Jx))
def zmj:AC:=(.seq (.seq (rr [jv 7 (.mov (jn 0))]) zmF) JQ)
def A63:AC:=(.seq (.reg [.clr [3]] [jx 3 (.box (.t 0)),jv 6 (.mov kf)] []) zmj)
def zwn:List An:=[⟨0,[.clr [3]],[],[],[]⟩]
theorem c63:cq Try.prog Try.f63 zwn=some A63:=by kernel_rfl
structure H63 (D:Den) (σ:Sig) (F:Nat):Prop where
 c81:C81 (D 81) F
 g81:σ 81=some (0,false)
 c64:C64 (D 64) F
 g64:σ 64=some (0,false)
 c56:C56 (D 56) F
 g56:σ 56=some (0,false)
abbrev R63 (r:Bool):(Nat→V)→Prop:=RR Try.prog [.tmp 6] 0 false (Enc.enc (r:Bool))
section
variable {r:Bool}
def YZ (F:Nat) (x2:LI) (x3:Int) (x1:GR) (x28:Int) (r54:LI) (x62:Int) (c1:Int→Option Bool) (c4:Int→Option Bool) (x74:Int):Option Bool:=
 bif decide ((w64 (x74 - x28)) > x3) then
  some false
 else
  c4 (w64 (x62 + 1))
theorem zcQ (H:H63 D σ F) (x2:LI) (x3:Int) (x1:GR) (x28:Int) (r54:LI) (x62:Int) (c1:Int→Option Bool) (Hc1:∀ (x28:Int) (s:Nat→V),zk [(1,eL x2),(2,ji x3),(3,bG 3 x1),(6,jb false),(7,ji x28)] s→c1 x28=some r→Run D σ (R63 r) (.run Jx [.lp Jx,.bk 0,.sq JQ]) s) (c4:Int→Option Bool) (Hc4:∀ (x62:Int) (s:Nat→V),zk [(1,eL x2),(2,ji x3),(3,bG 3 x1),(6,jb false),(7,ji x28),(8,eL r54),(9,ji x62)] s→c4 x62=some r→Run D σ (R63 r) (.run NG [.lp NG,.bk 2,.bk 1,.sq za0,.lp Jx,.bk 0,.sq JQ]) s) (x74:Int) (s:Nat→V) (hs:zk [(1,eL x2),(2,ji x3),(3,bG 3 x1),(6,jb false),(7,ji x28),(8,eL r54),(9,ji x62),(10,ji x74)] s) (h:YZ F x2 x3 x1 x28 r54 x62 c1 c4 x74=some r):Run D σ (R63 r) (.nrm [.sq zg0,.bk 3,.sq zhD,.lp NG,.bk 2,.bk 1,.sq za0,.lp Jx,.bk 0,.sq JQ]) s:=by
 unfold YZ at h
 obtain ⟨h1,h2,h3,h6,h7,h8,h9,h10⟩:=hs
 refine .nsq (.seq (rg (gm h10 fun h43=>gm h7 fun h44=>g2 43 44 (ji (w64 (x74 - x28))) h43 h44 fun h45=>gm h2 fun h46=>g2 45 46 (jb (decide ((w64 (x74 - x28)) > x3))) h45 h46 fun h47=>gz [(1,_),(2,_),(3,_),(6,_),(7,_),(8,_),(9,_),(47,_)] ⟨h1,h2,h3,h6,h7,h8,h9,h47⟩ ?_)))
 rintro s ⟨h1,h2,h3,h6,h7,h8,h9,h47⟩
 refine .nsq (zg h47 h (fun h=>?_) (fun h=>?_))
 · refine .seq (rg (g0 (jb false) fun h6=>gq (.nsq (.ret ?_))))
   obtain rfl:=oi h
   exact rrA (zf h6) rfl
 refine .skip (.nbk (.nsq (rg (gm h9 fun h27=>g1 27 (ji (w64 (x62 + 1))) h27 fun h28=>gm h28 fun h9=>gq (.nlp ?_)))))
 exact Hc4 (w64 (x62 + 1)) _ ⟨h1,h2,h3,h6,h7,h8,h9⟩ h
def w8 (F:Nat) (x2:LI) (x3:Int) (x1:GR) (x28:Int) (r54:LI) (c1:Int→Option Bool):Nat→Int→Option Bool
 | 0,_=>none
 | k + 1,x62=>
   bif decide (x62 < (r54.length:Int)) then
    (idx r54 x62).bind fun v70=>
    (vz F x2 v70).bind fun r71=>
    bif r71 then
     (idx r54 x62).bind fun v75=>
     (Zl F x2 v75).bind fun r76=>
     YZ F x2 x3 x1 x28 r54 x62 c1 (w8 F x2 x3 x1 x28 r54 c1 k) r76
    else
     YZ F x2 x3 x1 x28 r54 x62 c1 (w8 F x2 x3 x1 x28 r54 c1 k) (x2.length:Int)
   else
    c1 (w64 (x28 + 1))
theorem zhJ (H:H63 D σ F) (x2:LI) (x3:Int) (x1:GR) (x28:Int) (r54:LI) (c1:Int→Option Bool) (Hc1:∀ (x28:Int) (s:Nat→V),zk [(1,eL x2),(2,ji x3),(3,bG 3 x1),(6,jb false),(7,ji x28)] s→c1 x28=some r→Run D σ (R63 r) (.run Jx [.lp Jx,.bk 0,.sq JQ]) s):∀ (k:Nat) (x62:Int) (s:Nat→V),zk [(1,eL x2),(2,ji x3),(3,bG 3 x1),(6,jb false),(7,ji x28),(8,eL r54),(9,ji x62)] s→w8 F x2 x3 x1 x28 r54 c1 k x62=some r→Run D σ (R63 r) (.run NG [.lp NG,.bk 2,.bk 1,.sq za0,.lp Jx,.bk 0,.sq JQ]) s:=by
 intro k
 induction k with
 | zero=>intro x62 s _ h;exact nm h
 | succ k ih=>
   intro x62 s hs h
   rw [w8] at h
   obtain ⟨h1,h2,h3,h6,h7,h8,h9⟩:=hs
   refine .seq (.seq (rg (gm h9 fun h23=>gm h8 fun h24=>gl r54 h24 fun h25=>g2 23 25 (jb (decide (x62 < (r54.length:Int)))) h23 h25 fun h26=>gq (.nsq (zg h26 h (fun h=>?_) (fun h=>?_))))))
   · refine .skip (.nsq (.seq (.block (.seq (rg (gm h1 fun h29=>gl x2 h29 fun h30=>gm h30 fun h10=>gq (.nsq (.seq (.seq (rg (gm h1 fun h31=>gm h8 fun h32=>gm h9 fun h33=>?_)))))))))))
     obtain ⟨v70,Ev70,h⟩:=bind_some h
     refine gv (.ref .sh 0 [] (ji v70)) (yq (t:=.sh) (lo:=0) (xs:=r54) h32 h33 Ev70 rfl rfl) fun h34=>g1 34 (ji v70) h34 fun h35=>?_
     obtain ⟨r71,Er71,h⟩:=bind_some h
     refine zy (m:=0) (al:=false) (r:=Enc.enc (r71:Bool)) [eL x2,Enc.enc (v70:Int)] (zc (v:=eL x2) h31 rfl (Enc.erase_enc (x2:LI)) (zc (v:=ji v70) h35 rfl rfl zp)) (H.c64 _ _ _ Er71) H.g64 rfl rfl rfl rfl (gq (.nsq (zg rfl h (fun h=>?_) (fun h=>?_))))
     · refine rg (gm h1 fun h37=>gm h8 fun h38=>gm h9 fun h39=>?_)
       obtain ⟨v75,Ev75,h⟩:=bind_some h
       refine gv (.ref .sh 0 [] (ji v75)) (yq (t:=.sh) (lo:=0) (xs:=r54) h38 h39 Ev75 rfl rfl) fun h40=>g1 40 (ji v75) h40 fun h41=>?_
       obtain ⟨r76,Er76,h⟩:=bind_some h
       refine zy (m:=0) (al:=false) (r:=Enc.enc (r76:Int)) [eL x2,Enc.enc (v75:Int)] (zc (v:=eL x2) h37 rfl (Enc.erase_enc (x2:LI)) (zc (v:=ji v75) h41 rfl rfl zp)) (H.c56 _ _ _ Er76) H.g56 rfl rfl rfl rfl (gm (rf (ji r76)) fun h10=>gz [(1,_),(2,_),(3,_),(6,_),(7,_),(8,_),(9,_),(10,_)] ⟨h1,h2,h3,h6,h7,h8,h9,h10⟩ ?_)
       rintro s ⟨h1,h2,h3,h6,h7,h8,h9,h10⟩
       exact zcQ H x2 x3 x1 x28 r54 x62 c1 Hc1 (w8 F x2 x3 x1 x28 r54 c1 k) ih r76 _ ⟨h1,h2,h3,h6,h7,h8,h9,h10⟩ h
     refine .skip ?_
     exact zcQ H x2 x3 x1 x28 r54 x62 c1 Hc1 (w8 F x2 x3 x1 x28 r54 c1 k) ih (x2.length:Int) _ ⟨h1,h2,h3,h6,h7,h8,h9,h10⟩ h
   refine .exit (.esq (.elp (.ebk (.nbk (.nsq (rg (gm h7 fun h15=>g1 15 (ji (w64 (x28 + 1))) h15 fun h16=>gm h16 fun h7=>gq (.nlp ?_))))))))
   exact Hc1 (w64 (x28 + 1)) _ ⟨h1,h2,h3,h6,h7⟩ h
def w4 (F:Nat) (x2:LI) (x3:Int) (x1:GR) :Nat→Int→Option Bool
 | 0,_=>none
 | k + 1,x28=>
   bif decide (x28 < (x2.length:Int)) then
    (idx x2 x28).bind fun v53=>
    (vM F x1 v53).bind fun r54=>
    w8 F x2 x3 x1 x28 r54 (w4 F x2 x3 x1 k) F 0
   else
    some true
theorem zjS (H:H63 D σ F) (x2:LI) (x3:Int) (x1:GR) :∀ (k:Nat) (x28:Int) (s:Nat→V),zk [(1,eL x2),(2,ji x3),(3,bG 3 x1),(6,jb false),(7,ji x28)] s→w4 F x2 x3 x1 k x28=some r→Run D σ (R63 r) (.run Jx [.lp Jx,.bk 0,.sq JQ]) s:=by
 intro k
 induction k with
 | zero=>intro x28 s _ h;exact nm h
 | succ k ih=>
   intro x28 s hs h
   rw [w4] at h
   obtain ⟨h1,h2,h3,h6,h7⟩:=hs
   refine .seq (.seq (rg (gm h7 fun h11=>gm h1 fun h12=>gl x2 h12 fun h13=>g2 11 13 (jb (decide (x28 < (x2.length:Int)))) h11 h13 fun h14=>gq (.nsq (zg h14 h (fun h=>?_) (fun h=>?_))))))
   · refine .skip (.nsq (.seq (.block (.seq (rg (g1 3 (gV x1) h3 fun h17=>gm h1 fun h18=>gm h7 fun h19=>?_))))))
     obtain ⟨v53,Ev53,h⟩:=bind_some h
     refine gv (.ref .sh 0 [] (ji v53)) (yq (t:=.sh) (lo:=0) (xs:=x2) h18 h19 Ev53 rfl rfl) fun h20=>g1 20 (ji v53) h20 fun h21=>?_
     obtain ⟨r54,Er54,h⟩:=bind_some h
     refine zy (m:=0) (al:=false) (r:=eL r54) [Enc.enc (x1:GR),Enc.enc (v53:Int)] (zc (v:=gV x1) h17 rfl (Enc.erase_enc (x1:GR)) (zc (v:=ji v53) h21 rfl rfl zp)) (H.c81 _ _ _ Er54) H.g81 rfl rfl rfl rfl (gm (rf (eL r54)) fun h8=>gq (.nsq (.seq (rg (g0 (ji 0) fun h9=>gq (.nsq (.block (.loop ?_))))))))
     exact zhJ H x2 x3 x1 x28 r54 (w4 F x2 x3 x1 k) ih F 0 _ ⟨h1,h2,h3,h6,h7,h8,h9⟩ h
   refine .exit (.esq (.elp (.ebk (.nsq (.seq (rg (g0 (jb true) fun h6=>gq (.nsq (.ret ?_)))))))))
   obtain rfl:=oi h
   exact rrA (zf h6) rfl
def XW (F:Nat) (x1:GR) (x2:LI) (x3:Int):Option Bool:=
 w4 F x2 x3 x1 F 0
theorem t63 (H:H63 D σ F) (x1:GR) (x2:LI) (x3:Int) (s:Nat→V) (hs:zk [(0,gV x1),(1,eL x2),(2,ji x3)] s) (h:XW F x1 x2 x3=some r):Run D σ (R63 r) (.run A63 []) s:=by
 unfold XW at h
 obtain ⟨h0,h1,h2⟩:=hs
 refine .seq (zo (zT ?_))
 refine ez [(0,_),(1,_),(2,_),(3,_)] ⟨za h0 rfl mIE,za h1 rfl me,za h2 rfl mi,zb rfl⟩ ?_
 rintro s ⟨h0,h1,h2,h3⟩
 refine xo (gV x1) (zx h0 rfl) h3 rfl (g0 (jb false) fun h6=>gq (.nsq (.seq (.seq (rg (g0 (ji 0) fun h7=>gq (.nsq (.block (.loop ?_)))))))))
 exact zjS H x2 x3 x1 F 0 _ ⟨h1,h2,rfl,h6,h7⟩ h
end
def e63 (F:Nat):Ent:=ent 63 (fun (x:(GR×LI×Int×Unit))=>XW F x.1 x.2.1 x.2.2.1) (fun (r:Bool)=>(Enc.enc (r:Bool))) 0 false []
abbrev C63 (D:List V→Option V) (F:Nat):Prop:=∀ (x0:GR) (x1:LI) (x2:Int) r,XW F x0 x1 x2=some r→D [Enc.enc x0,Enc.enc x1,Enc.enc x2]=some (Enc.enc (r:Bool))
theorem p63 {F:Nat}:C63 (e63 F).den F:=fun x0 x1 x2 _ h=>zK (x0,x1,x2,()) h
theorem o63 (hF:zr Try.prog D σ) (H:H63 D σ F):(e63 F).Ok Try.prog:=okZ (f:=63) Try.func63 fun ⟨x0,x1,x2,_⟩ y hy=>cR hF Try.func63 c63 (t63 H x0 x1 x2 _ ⟨rfl,rfl,rfl⟩ hy)
def zn9:AC:=(.seq (.reg [.clr [3,5]] [jx 3 (.lit i0 0 []),jm 4 0,jx 5 (.app .s (.t 3) (.t 4)),jm 2 5] [.home 5 2]) .ret)
def zrM:AC:=(.seq (rr [jv 2 (.mov (.k (.sl .nl .s 0 [])))]) zn9)
def zrx:List An:=[⟨1,[.clr [3,5]],[],[],[.home 5 2]⟩]
theorem c65o:cq Try.prog Try.f65 zrx=some zrM:=by kernel_rfl
structure zto (D:Den) (σ:Sig) (F:Nat):Prop where
 mk ::
abbrev zvk (r:(NL Int)):(Nat→V)→Prop:=RR Try.prog [.tmp 2] 1 false (zj .sh (r:NL Int))
section
variable {r:(NL Int)}
def Z3 (F:Nat) (x1:LI):Option (NL Int):=
 (wJ [] x1).bind fun ap2=>
 some (.of ap2)
theorem zvt (H:zto D σ F) (x1:LI) (s:Nat→V) (hs:zk [(0,eL x1)] s) (h:Z3 F x1=some r):Run D σ (zvk r) (.run zrM []) s:=by
 unfold Z3 at h
 have h0:=hs
 refine .seq (rg (g0 nI fun h2=>gq (.nsq (.seq (zo (zT ?_))))))
 refine ez [(0,_),(2,_),(3,_),(5,_)] ⟨za h0 rfl me,za h2 rfl rfl,zb rfl,zb rfl⟩ ?_
 rintro s ⟨h0,h2,h3,h5⟩
 refine xq [] [] trivial rfl rfl h3 (gm h0 fun h4=>?_)
 obtain ⟨ap2,Eap2,h⟩:=bind_some h
 refine Xd (q:=3) (p:=[]) (o:=.of ([]:LI)) (ys:=(x1:LI)) (t2:=.sh) (lo2:=0) rfl h4 rfl h5 (ZB (o:=.of ([]:LI)) Eap2 trivial) (fun s2 ha2=>gm (rf (oI 5 [] (.of ap2))) fun h2=>yL (yr (r:=5) (x:=2) (v:=_) h2 rfl (fun s3 hz3=>?_)))
 refine ez [(2,oI 2 [] (.of ap2))] (hz3 2 _ _ h2 (zl (r:=5) (p:=[]) rfl rfl)) ?_
 rintro s h2
 refine .nsq (.ret ?_)
 obtain rfl:=oi h
 exact rrA (zf h2) (UM (UP (o:=((.of ap2):NL Int))) rfl (wx rfl))
end
def zmr (F:Nat):Ent:=ent 1000000065 (fun (x:(LI×Unit))=>Z3 F x.1) (fun (r:(NL Int))=>(zj .sh (r:NL Int))) 1 false []
abbrev zs3 (D:List V→Option V) (F:Nat):Prop:=∀ (x0:LI) r,Z3 F x0=some r→D [Enc.enc x0]=some (zj .sh (r:NL Int))
theorem zu3 {F:Nat}:zs3 (zmr F).den F:=fun x0 _ h=>zK (x0,()) h
theorem zu1 (hF:zr Try.prog D σ) (H:zto D σ F):(zmr F).Ok Try.prog:=okZ (f:=65) Try.func65 fun ⟨x0,_⟩ y hy=>cR hF Try.func65 c65o (zvt H x0 _ rfl hy)
def zqB:AC:=(.cond (.t 26) .skip (.exit 0))
def zt0:AC:=(.cond (.t 31) (.exit 1) .skip)
def zsm:AC:=(.cond (.t 43) (.seq (rr [jm 44 9,jm 6 44,jv 7 (.mov kt)]) .ret) .skip)
def zqd:AC:=(.seq (rr [jm 43 10]) zsm)
def zqI:AC:=(.seq (.reg [.clr [35,37,38]] [jv 33 (.load (.ag [.s,.p]) (.t 3)),jm 34 1,jy 35 (.callO (jf 65) [.t 34]),jm 36 8,jx 37 (.lit i0 1 [(0,0,.t 36)]),jy 38 (.appS .s (.t 35) (.t 37)),jm 39 2,jx 40 (.call (jf 34) [.t 33,.t 38,.t 39]),jm 32 40,jv 41 (.ext (.t 32) 0),jv 42 (.extS (.t 32) 1),jm 9 41,jm 10 42] []) zqd)
def zqu:AC:=(rr [jm 27 8,jv 28 (.bin .add (.t 27) (jn 1)),jm 8 28])
def zoR:AC:=(.seq (.block 1 (.seq (.seq (rr [jm 29 1,jm 30 8,jx 31 (.call (jf 64) [.t 29,.t 30])]) zt0) zqI)) zqu)
def zjo:AC:=(.seq (.seq (rr [jm 23 8,jv 24 (.fld (.t 3) 0 0),jl 25 24,jv 26 (.bin .lss (.t 23) (.t 25))]) zqB) zoR)
def zly:AC:=(.seq (.reg [.clr [45]] [jx 45 (.lit i0 0 []),jm 6 45,jv 7 (.mov kf)] [.home 45 6]) .ret)
def znr:AC:=(.cond (.t 15) (.seq (.reg [.clr [16]] [jx 16 (.lit i0 0 []),jm 6 16,jv 7 (.mov kf)] [.home 16 6]) .ret) .skip)
def zny:AC:=(.cond (.t 21) (.seq (rr [jm 22 1,jm 6 22,jv 7 (.mov kt)]) .ret) .skip)
def zmd:AC:=(.block 0 (.loop zjo))
def zni:AC:=(.seq (.seq (rr [jv 8 (.mov (jn 0))]) zmd) zly)
def zmM:AC:=(.seq (.seq (rr [jm 17 1,jk 18 17,jv 19 (.fld (.t 3) 0 0),jl 20 19,jv 21 (.bin .eql (.t 18) (.t 20))]) zny) zni)
def zmY:AC:=(.seq (.seq (rr [jv 11 (.load (.ag [.s,.p]) (.t 3)),jm 12 1,jm 13 2,jx 14 (.call (jf 63) [.t 11,.t 12,.t 13]),jv 15 (.un .not (.t 14))]) znr) zmM)
def A34:AC:=(.seq (.reg [.clr [3]] [jx 3 (.box (.t 0)),jv 6 (.mov (.k (.sl .nl .s 0 []))),jv 7 (.mov kf)] []) zmY)
def zvl:List An:=[⟨0,[.clr [3]],[],[],[]⟩,⟨2,[.clr [16]],[],[],[.home 16 6]⟩,⟨9,[.clr [35,37,38]],[2,5],[5,1002],[]⟩,⟨12,[.clr [45]],[],[],[.home 45 6]⟩]
theorem c34:cq Try.prog Try.f34 zvl=some A34:=by kernel_rfl
structure H34 (D:Den) (σ:Sig) (F:Nat) (rc:GR→LI→Int→Option (LI×Bool)):Prop where
 c63:C63 (D 63) F
 g63:σ 63=some (0,false)
 c64:C64 (D 64) F
 g64:σ 64=some (0,false)
 c65o:zs3 (D 1000000065) F
 g65o:σ 1000000065=some (1,false)
 c34:∀ (x0:GR) (x1:LI) (x2:Int) r,rc x0 x1 x2=some r→D 34 [Enc.enc x0,Enc.enc x1,Enc.enc x2]=some (.tup [eL r.1,Enc.enc (r.2:Bool)])
 g34:σ 34=some (0,true)
abbrev R34 (r:(LI×Bool)):(Nat→V)→Prop:=RR Try.prog [.tmp 6,.tmp 7] 0 true (.tup [eL r.1,Enc.enc (r.2:Bool)])
section
variable {rc:GR→LI→Int→Option (LI×Bool)} {r:(LI×Bool)}
def wZ (F:Nat) (rc:GR→LI→Int→Option (LI×Bool)) (x2:LI) (x3:Int) (x1:GR) :Nat→Int→Option (LI×Bool)
 | 0,_=>none
 | k + 1,x9=>
   bif decide (x9 < x1.1) then
    (vz F x2 x9).bind fun r14=>
    bif r14 then
     (wZ F rc x2 x3 x1 k) (w64 (x9 + 1))
    else
     (Z3 F x2).bind fun r15=>
     (wJ r15.list [x9]).bind fun ap16=>
     (rc x1 ap16 x3).bind fun r17=>
     bif r17.2 then
      some (r17.1,true)
     else
      (wZ F rc x2 x3 x1 k) (w64 (x9 + 1))
   else
    some ([],false)
theorem zgZ (H:H34 D σ F rc) (x2:LI) (x3:Int) (x1:GR) :∀ (k:Nat) (x9:Int) (s:Nat→V),zk [(1,eL x2),(2,ji x3),(3,bG 3 x1),(6,nI),(7,jb false),(8,ji x9)] s→wZ F rc x2 x3 x1 k x9=some r→Run D σ (R34 r) (.run zjo [.lp zjo,.bk 0,.sq zly]) s:=by
 intro k
 induction k with
 | zero=>intro x9 s _ h;exact nm h
 | succ k ih=>
   intro x9 s hs h
   rw [wZ] at h
   obtain ⟨h1,h2,h3,h6,h7,h8⟩:=hs
   refine .seq (.seq (rg (gm h8 fun h23=>g1 3 (.ref (.bx 3) 0 [0] (ji x1.1)) h3 fun h24=>g1 24 (ji x1.1) h24 fun h25=>g2 23 25 (jb (decide (x9 < x1.1))) h23 h25 fun h26=>gq (.nsq (zg h26 h (fun h=>?_) (fun h=>?_))))))
   · refine .skip (.nsq (.seq (.block (.seq (.seq (rg (gm h1 fun h29=>gm h8 fun h30=>?_)))))))
     obtain ⟨r14,Er14,h⟩:=bind_some h
     refine zy (m:=0) (al:=false) (r:=Enc.enc (r14:Bool)) [eL x2,Enc.enc (x9:Int)] (zc (v:=eL x2) h29 rfl (Enc.erase_enc (x2:LI)) (zc (v:=ji x9) h30 rfl rfl zp)) (H.c64 _ _ _ Er14) H.g64 rfl rfl rfl rfl (gq (.nsq (zg rfl h (fun h=>?_) (fun h=>?_))))
     · refine .exit (.esq (.ebk (.nsq (rg (gm h8 fun h27=>g1 27 (ji (w64 (x9 + 1))) h27 fun h28=>gm h28 fun h8=>gq (.nlp ?_))))))
       exact ih (w64 (x9 + 1)) _ ⟨h1,h2,h3,h6,h7,h8⟩ h
     refine .skip (.nsq (.seq (zo (zT ?_))))
     refine ez [(1,_),(2,_),(3,_),(6,_),(7,_),(8,_),(35,_),(37,_),(38,_)] ⟨za h1 rfl me,za h2 rfl mi,za h3 rfl (zi rfl mIE),za h6 rfl rfl,za h7 rfl mb,za h8 rfl mi,zb rfl,zb rfl,zb rfl⟩ ?_
     rintro s ⟨h1,h2,h3,h6,h7,h8,h35,h37,h38⟩
     refine g1 3 (gV x1) h3 fun h33=>gm h1 fun h34=>?_
     obtain ⟨r15,Er15,h⟩:=bind_some h
     refine zb8 (m:=1) (al:=false) (r:=zj .sh (r15:NL Int)) (o:=(r15:NL Int)) (kk:=1000000065) [eL x2] (zc (v:=eL x2) h34 rfl (Enc.erase_enc (x2:LI)) zp) (H.c65o _ _ Er15) H.g65o rfl Zv Yw h35 (gm h8 fun h36=>xq [(36,ji x9)] [Enc.enc (x9:Int)] h36 rfl rfl h37 ?_)
     obtain ⟨ap16,Eap16,h⟩:=bind_some h
     refine zen (o:=(r15:NL Int)) (ys:=([x9]:LI)) (t2:=.at 37 []) (lo2:=0) rfl rfl rfl h38 (by simp) Eap16 (fun s11 hl_11=>gm (show s11 2=(ji x3) from (hl_11 2 (by decide)).trans h2) fun h39=>?_)
     obtain ⟨r17,Er17,h⟩:=bind_some h
     refine zap (rl:=38) (m:=0) (al:=true) (r:=.tup [eL r17.1,Enc.enc (r17.2:Bool)]) [Enc.enc (x1:GR),eL ap16,Enc.enc (x3:Int)] (by exact (zc (v:=gV x1) (show s11 33=(gV x1) from (hl_11 33 (by decide)).trans h33) rfl (Enc.erase_enc (x1:GR)) (zda (r:=38) (v:=oI 38 [] (.of ap16)) rfl (Zg (o:=.of ap16)) (zc (v:=ji x3) h39 rfl rfl zp)))) (H.c34 _ _ _ _ Er17) H.g34 (by exact (X0 (vp (v:=gV x1) (show s11 33=(gV x1) from (hl_11 33 (by decide)).trans h33) rfl rfl (zdN (r:=38) (o:=(.of ap16:NL Int)) rfl (vp (v:=ji x3) h39 rfl rfl XO))))) rfl rfl rfl (gm (rf (.tup [eL r17.1,jb r17.2])) fun h32=>?_)
     refine g1 32 (eL r17.1) h32 fun h41=>g1 32 (jb r17.2) h32 fun h42=>gm h41 fun h9=>gm h42 fun h10=>gz [(1,_),(2,_),(3,_),(6,_),(7,_),(8,_),(9,_),(10,_)] ⟨(show s11 1=(eL x2) from (hl_11 1 (by decide)).trans h1),(show s11 2=(ji x3) from (hl_11 2 (by decide)).trans h2),(show s11 3=(bG 3 x1) from (hl_11 3 (by decide)).trans h3),(show s11 6=nI from (hl_11 6 (by decide)).trans h6),(show s11 7=(jb false) from (hl_11 7 (by decide)).trans h7),(show s11 8=(ji x9) from (hl_11 8 (by decide)).trans h8),h9,h10⟩ ?_
     rintro s ⟨h1,h2,h3,h6,h7,h8,h9,h10⟩
     refine .nsq (.seq (rg (gm h10 fun h43=>gq (.nsq (zg h43 h (fun h=>?_) (fun h=>?_))))))
     · refine .seq (rg (gm h9 fun h44=>gm h44 fun h6=>g0 (jb true) fun h7=>gq (.nsq (.ret ?_))))
       obtain rfl:=oi h
       exact rrB (zf h6) (zf h7) (xS (wH (zP (yz (x:=(r17.1:LI))) (zP (yz (x:=(true:Bool))) xA))))
     refine .skip (.nbk (.nsq (rg (gm h8 fun h27=>g1 27 (ji (w64 (x9 + 1))) h27 fun h28=>gm h28 fun h8=>gq (.nlp ?_)))))
     exact ih (w64 (x9 + 1)) _ ⟨h1,h2,h3,h6,h7,h8⟩ h
   refine .exit (.esq (.elp (.ebk (.nsq (.seq (zo (zT ?_)))))))
   refine ez [(6,_),(7,_),(45,_)] ⟨za h6 rfl rfl,za h7 rfl mb,zb rfl⟩ ?_
   rintro s ⟨h6,h7,h45⟩
   refine xq [] [] trivial rfl rfl h45 (gm (rf (oI 45 [] (.of []))) fun h6=>g0 (jb false) fun h7=>yL (yr (r:=45) (x:=6) (v:=_) h6 rfl (fun s13 hz13=>?_)))
   refine ez [(6,oI 6 [] (.of [])),(7,jb false)] ⟨hz13 6 _ _ h6 (zl (r:=45) (p:=[]) rfl rfl),hz13 7 _ _ h7 mb⟩ ?_
   rintro s ⟨h6,h7⟩
   refine .nsq (.ret ?_)
   obtain rfl:=oi h
   exact rrB (zf h6) (zf h7) (xS (wH (zP (wl (o:=.of [])) (zP (yz (x:=(false:Bool))) xA))))
def uy (F:Nat) (rc:GR→LI→Int→Option (LI×Bool)) (x1:GR) (x2:LI) (x3:Int):Option (LI×Bool):=
 (XW F x1 x2 x3).bind fun r4=>
 bif (!r4) then
  some ([],false)
 else
  bif ((x2.length:Int) == x1.1) then
   some (x2,true)
  else
   wZ F rc x2 x3 x1 F 0
theorem t34 (H:H34 D σ F rc) (x1:GR) (x2:LI) (x3:Int) (s:Nat→V) (hs:zk [(0,gV x1),(1,eL x2),(2,ji x3)] s) (h:uy F rc x1 x2 x3=some r):Run D σ (R34 r) (.run A34 []) s:=by
 unfold uy at h
 obtain ⟨h0,h1,h2⟩:=hs
 refine .seq (zo (zT ?_))
 refine ez [(0,_),(1,_),(2,_),(3,_)] ⟨za h0 rfl mIE,za h1 rfl me,za h2 rfl mi,zb rfl⟩ ?_
 rintro s ⟨h0,h1,h2,h3⟩
 refine xo (gV x1) (zx h0 rfl) h3 rfl (g0 nI fun h6=>g0 (jb false) fun h7=>gq (.nsq (.seq (.seq (rg (g1 3 (gV x1) (rf (bG 3 x1)) fun h11=>gm h1 fun h12=>gm h2 fun h13=>?_))))))
 obtain ⟨r4,Er4,h⟩:=bind_some h
 refine zy (m:=0) (al:=false) (r:=Enc.enc (r4:Bool)) [Enc.enc (x1:GR),eL x2,Enc.enc (x3:Int)] (zc (v:=gV x1) h11 rfl (Enc.erase_enc (x1:GR)) (zc (v:=eL x2) h12 rfl (Enc.erase_enc (x2:LI)) (zc (v:=ji x3) h13 rfl rfl zp))) (H.c63 _ _ _ _ Er4) H.g63 rfl rfl rfl rfl (g1 14 (jb (!r4)) (rf (jb r4)) fun h15=>gq (.nsq (zg h15 h (fun h=>?_) (fun h=>?_))))
 · refine .seq (zo (zT ?_))
   refine ez [(1,_),(2,_),(3,_),(6,_),(7,_),(16,_)] ⟨za h1 rfl me,za h2 rfl mi,za rfl rfl (zi rfl mIE),za h6 rfl rfl,za h7 rfl mb,zb rfl⟩ ?_
   rintro s ⟨h1,h2,h3,h6,h7,h16⟩
   refine xq [] [] trivial rfl rfl h16 (gm (rf (oI 16 [] (.of []))) fun h6=>g0 (jb false) fun h7=>yL (yr (r:=16) (x:=6) (v:=_) h6 rfl (fun s5 hz5=>?_)))
   refine ez [(1,eL x2),(2,ji x3),(3,bG 3 x1),(6,oI 6 [] (.of [])),(7,jb false)] ⟨hz5 1 _ _ h1 me,hz5 2 _ _ h2 mi,hz5 3 _ _ h3 (zi rfl mIE),hz5 6 _ _ h6 (zl (r:=16) (p:=[]) rfl rfl),hz5 7 _ _ h7 mb⟩ ?_
   rintro s ⟨h1,h2,h3,h6,h7⟩
   refine .nsq (.ret ?_)
   obtain rfl:=oi h
   exact rrB (zf h6) (zf h7) (xS (wH (zP (wl (o:=.of [])) (zP (yz (x:=(false:Bool))) xA))))
 refine .skip (.nsq (.seq (.seq (rg (gm h1 fun h17=>gl x2 h17 fun h18=>g1 3 (.ref (.bx 3) 0 [0] (ji x1.1)) (rf (bG 3 x1)) fun h19=>g1 19 (ji x1.1) h19 fun h20=>g2 18 20 (jb ((x2.length:Int) == x1.1)) h18 h20 fun h21=>gq (.nsq (zg h21 h (fun h=>?_) (fun h=>?_))))))))
 · refine .seq (rg (gm h1 fun h22=>gm h22 fun h6=>g0 (jb true) fun h7=>gq (.nsq (.ret ?_))))
   obtain rfl:=oi h
   exact rrB (zf h6) (zf h7) (xS (wH (zP (yz (x:=(x2:LI))) (zP (yz (x:=(true:Bool))) xA))))
 refine .skip (.nsq (.seq (.seq (rg (g0 (ji 0) fun h8=>gq (.nsq (.block (.loop ?_))))))))
 exact zgZ H x2 x3 x1 F 0 _ ⟨h1,h2,rfl,h6,h7,h8⟩ h
end
def wX (F:Nat):Nat→GR→LI→Int→Option (LI×Bool)
 | 0,_,_,_=>none
 | k + 1,x0,x1,x2=>uy F (wX F k) x0 x1 x2
def JP (F:Nat) (x0:GR) (x1:LI) (x2:Int):Option (LI×Bool):=wX F F x0 x1 x2
def e34 (F:Nat) (k:Nat):Ent:=ent 34 (fun (x:(GR×LI×Int×Unit))=>wX F k x.1 x.2.1 x.2.2.1) (fun (r:(LI×Bool))=>(.tup [eL r.1,Enc.enc (r.2:Bool)])) 0 true []
theorem p34 {F:Nat} {k:Nat} {x0:GR} {x1:LI} {x2:Int} {r:(LI×Bool)} (h:wX F k x0 x1 x2=some r):(e34 F k).den [Enc.enc x0,Enc.enc x1,Enc.enc x2]=some (.tup [eL r.1,Enc.enc (r.2:Bool)]):=zK (x0,x1,x2,()) h
theorem z34 {F:Nat}:(e34 F 0).Ok Try.prog:=by
 refine Ln (f:=34) (show unk 34=34 from rfl) (fun args r h=>?_) ⟨Try.f34,Try.func34,rfl,rfl⟩
 obtain ⟨⟨x0,x1,x2,_⟩,y,rfl,hy,rfl⟩:=Wc h
 cases hy
theorem o34 {D:Den} {σ:Sig} {F k:Nat} (hF:zr Try.prog D σ) (H:H34 D σ F (wX F k)):(e34 F (k + 1)).Ok Try.prog:=by
 refine Ln (f:=34) (show unk 34=34 from rfl) (fun args r h=>?_) ⟨Try.f34,Try.func34,rfl,rfl⟩
 obtain ⟨⟨x0,x1,x2,_⟩,y,rfl,hy,rfl⟩:=Wc h
 exact Yz hF (by kernel_rfl) Try.func34 rfl c34 (show 3≤Try.f34.ntmps by decide) (t34 H x0 x1 x2 _ ⟨rfl,rfl,rfl⟩ hy)
def zoS:AC:=(.cond (.t 15) .skip (.exit 0))
def zrZ:AC:=(.cond (.t 25) (.seq (rr [jm 26 6,jm 27 5,jm 2 26,jm 3 27,jv 4 (.mov kt)]) .ret) .skip)
def zta:AC:=(.seq (rr [jm 25 7]) zrZ)
def zqE:AC:=(rr [jm 16 5,jv 17 (.bin .add (.t 16) (jn 1)),jm 5 17])
def zrF:AC:=(.seq (.block 1 (.seq (.reg [.clr [20]] [jv 19 (.load (.ag [.s,.p]) (.t 1)),jy 20 (.lit i0 0 []),jm 21 5,jx 22 (.call (jf 34) [.t 19,.t 20,.t 21]),jm 18 22,jv 23 (.ext (.t 18) 0),jv 24 (.extS (.t 18) 1),jm 6 23,jm 7 24] []) zta)) zqE)
def zjN:AC:=(.seq (.seq (rr [jm 12 5,jv 13 (.fld (.t 1) 0 0),jl 14 13,jv 15 (.bin .lss (.t 12) (.t 14))]) zoS) zrF)
def zlo:AC:=(.seq (.reg [.clr [28]] [jx 28 (.lit i0 0 []),jm 2 28,jv 3 (.mov (jn 0)),jv 4 (.mov kt)] [.home 28 2]) .ret)
def zrS:AC:=(.cond (.t 10) (.seq (.reg [.clr [11]] [jx 11 (.lit i0 0 []),jm 2 11,jv 3 (.mov (jn 0)),jv 4 (.mov kf)] [.home 11 2]) .ret) .skip)
def zng:AC:=(.block 0 (.loop zjN))
def znM:AC:=(.seq (.seq (rr [jv 5 (.mov (jn 0))]) zng) zlo)
def zo8:AC:=(.seq (.seq (rr [jv 8 (.load (.ag [.s,.p]) (.t 1)),jx 9 (.call (jf 33) [.t 8]),jv 10 (.un .not (.t 9))]) zrS) znM)
def A13:AC:=(.seq (.reg [.clr [1]] [jx 1 (.box (.t 0)),jv 2 (.mov (.k (.sl .nl .s 0 []))),jv 3 (.mov (jn 0)),jv 4 (.mov kf)] []) zo8)
def zuQ:List An:=[⟨0,[.clr [1]],[],[],[]⟩,⟨2,[.clr [11]],[],[],[.home 11 2]⟩,⟨6,[.clr [20]],[1],[],[]⟩,⟨9,[.clr [28]],[],[],[.home 28 2]⟩]
theorem c13:cq Try.prog Try.f13 zuQ=some A13:=by kernel_rfl
structure H13 (D:Den) (σ:Sig) (F:Nat):Prop where
 c33:C33 (D 33) F
 g33:σ 33=some (0,false)
 c34:∀ (x0:GR) (x1:LI) (x2:Int) r,JP F x0 x1 x2=some r→D 34 [Enc.enc x0,Enc.enc x1,Enc.enc x2]=some (.tup [eL r.1,Enc.enc (r.2:Bool)])
 g34:σ 34=some (0,true)
abbrev R13 (r:(S3 LI Int Bool)):(Nat→V)→Prop:=RR Try.prog [.tmp 2,.tmp 3,.tmp 4] 0 true (.tup [eL r.a,Enc.enc (r.b:Int),Enc.enc (r.c:Bool)])
section
variable {r:(S3 LI Int Bool)}
def xj (F:Nat) (x1:GR) :Nat→Int→Option (S3 LI Int Bool)
 | 0,_=>none
 | k + 1,x4=>
   bif decide (x4 < x1.1) then
    (JP F x1 [] x4).bind fun r6=>
    bif r6.2 then
     some (S3.mk r6.1 x4 true)
    else
     (xj F x1 k) (w64 (x4 + 1))
   else
    some (S3.mk [] 0 true)
theorem zjE (H:H13 D σ F) (x1:GR) :∀ (k:Nat) (x4:Int) (s:Nat→V),zk [(1,bG 1 x1),(2,nI),(3,ji 0),(4,jb false),(5,ji x4)] s→xj F x1 k x4=some r→Run D σ (R13 r) (.run zjN [.lp zjN,.bk 0,.sq zlo]) s:=by
 intro k
 induction k with
 | zero=>intro x4 s _ h;exact nm h
 | succ k ih=>
   intro x4 s hs h
   rw [xj] at h
   obtain ⟨h1,h2,h3,h4,h5⟩:=hs
   refine .seq (.seq (rg (gm h5 fun h12=>g1 1 (.ref (.bx 1) 0 [0] (ji x1.1)) h1 fun h13=>g1 13 (ji x1.1) h13 fun h14=>g2 12 14 (jb (decide (x4 < x1.1))) h12 h14 fun h15=>gq (.nsq (zg h15 h (fun h=>?_) (fun h=>?_))))))
   · refine .skip (.nsq (.seq (.block (.seq (zo (zT ?_))))))
     refine ez [(1,_),(2,_),(3,_),(4,_),(5,_),(20,_)] ⟨za h1 rfl (zi rfl mIE),za h2 rfl rfl,za h3 rfl mi,za h4 rfl mb,za h5 rfl mi,zb rfl⟩ ?_
     rintro s ⟨h1,h2,h3,h4,h5,h20⟩
     refine g1 1 (gV x1) h1 fun h19=>zbd [] [] trivial rfl rfl h20 (gm h5 fun h21=>?_)
     obtain ⟨r6,Er6,h⟩:=bind_some h
     refine zap (rl:=20) (m:=0) (al:=true) (r:=.tup [eL r6.1,Enc.enc (r6.2:Bool)]) [Enc.enc (x1:GR),Enc.enc ([]:LI),Enc.enc (x4:Int)] (by exact (zc (v:=gV x1) h19 rfl (Enc.erase_enc (x1:GR)) (zda (r:=20) (v:=oI 20 [] (.of [])) rfl (Zg (o:=.of [])) (zc (v:=ji x4) h21 rfl rfl zp)))) (H.c34 _ _ _ _ Er6) H.g34 (by exact (X0 (vp (v:=gV x1) h19 rfl rfl (zdN (r:=20) (o:=(.of []:NL Int)) rfl (vp (v:=ji x4) h21 rfl rfl XO))))) rfl rfl rfl (gm (rf (.tup [eL r6.1,jb r6.2])) fun h18=>g1 18 (eL r6.1) h18 fun h23=>g1 18 (jb r6.2) h18 fun h24=>?_)
     refine gm h23 fun h6=>gm h24 fun h7=>gq (.nsq (.seq (rg (gm h7 fun h25=>gq (.nsq (zg h25 h (fun h=>?_) (fun h=>?_)))))))
     · refine .seq (rg (gm h6 fun h26=>gm h5 fun h27=>gm h26 fun h2=>gm h27 fun h3=>g0 (jb true) fun h4=>gq (.nsq (.ret ?_))))
       obtain rfl:=oi h
       exact rrC (zf h2) (zf h3) (zf h4) (xS (wH (zP (yz (x:=(r6.1:LI))) (zP (yz (x:=(x4:Int))) (zP (yz (x:=(true:Bool))) xA)))))
     refine .skip (.nbk (.nsq (rg (gm h5 fun h16=>g1 16 (ji (w64 (x4 + 1))) h16 fun h17=>gm h17 fun h5=>gq (.nlp ?_)))))
     exact ih (w64 (x4 + 1)) _ ⟨h1,h2,h3,h4,h5⟩ h
   refine .exit (.esq (.elp (.ebk (.nsq (.seq (zo (zT ?_)))))))
   refine ez [(2,_),(3,_),(4,_),(28,_)] ⟨za h2 rfl rfl,za h3 rfl mi,za h4 rfl mb,zb rfl⟩ ?_
   rintro s ⟨h2,h3,h4,h28⟩
   refine xq [] [] trivial rfl rfl h28 (gm (rf (oI 28 [] (.of []))) fun h2=>g0 (ji 0) fun h3=>g0 (jb true) fun h4=>yL (yr (r:=28) (x:=2) (v:=_) h2 rfl (fun s10 hz10=>?_)))
   refine ez [(2,oI 2 [] (.of [])),(3,ji 0),(4,jb true)] ⟨hz10 2 _ _ h2 (zl (r:=28) (p:=[]) rfl rfl),hz10 3 _ _ h3 mi,hz10 4 _ _ h4 mb⟩ ?_
   rintro s ⟨h2,h3,h4⟩
   refine .nsq (.ret ?_)
   obtain rfl:=oi h
   exact rrC (zf h2) (zf h3) (zf h4) (xS (wH (zP (wl (o:=.of [])) (zP (yz (x:=(0:Int))) (zP (yz (x:=(true:Bool))) xA)))))
def xR (F:Nat) (x1:GR):Option (S3 LI Int Bool):=
 (uK F x1).bind fun r2=>
 bif (!r2) then
  some (S3.mk [] 0 false)
 else
  xj F x1 F 0
theorem t13 (H:H13 D σ F) (x1:GR) (s:Nat→V) (hs:zk [(0,gV x1)] s) (h:xR F x1=some r):Run D σ (R13 r) (.run A13 []) s:=by
 unfold xR at h
 have h0:=hs
 refine .seq (zo (zT ?_))
 refine ez [(0,_),(1,_)] ⟨za h0 rfl mIE,zb rfl⟩ ?_
 rintro s ⟨h0,h1⟩
 refine xo (gV x1) (zx h0 rfl) h1 rfl (g0 nI fun h2=>g0 (ji 0) fun h3=>g0 (jb false) fun h4=>gq (.nsq (.seq (.seq (rg (g1 1 (gV x1) (rf (bG 1 x1)) fun h8=>?_))))))
 obtain ⟨r2,Er2,h⟩:=bind_some h
 refine zy (m:=0) (al:=false) (r:=Enc.enc (r2:Bool)) [Enc.enc (x1:GR)] (zc (v:=gV x1) h8 rfl (Enc.erase_enc (x1:GR)) zp) (H.c33 _ _ Er2) H.g33 rfl rfl rfl rfl (g1 9 (jb (!r2)) (rf (jb r2)) fun h10=>gq (.nsq (zg h10 h (fun h=>?_) (fun h=>?_))))
 · refine .seq (zo (zT ?_))
   refine ez [(1,_),(2,_),(3,_),(4,_),(11,_)] ⟨za rfl rfl (zi rfl mIE),za h2 rfl rfl,za h3 rfl mi,za h4 rfl mb,zb rfl⟩ ?_
   rintro s ⟨h1,h2,h3,h4,h11⟩
   refine xq [] [] trivial rfl rfl h11 (gm (rf (oI 11 [] (.of []))) fun h2=>g0 (ji 0) fun h3=>g0 (jb false) fun h4=>yL (yr (r:=11) (x:=2) (v:=_) h2 rfl (fun s5 hz5=>?_)))
   refine ez [(1,bG 1 x1),(2,oI 2 [] (.of [])),(3,ji 0),(4,jb false)] ⟨hz5 1 _ _ h1 (zi rfl mIE),hz5 2 _ _ h2 (zl (r:=11) (p:=[]) rfl rfl),hz5 3 _ _ h3 mi,hz5 4 _ _ h4 mb⟩ ?_
   rintro s ⟨h1,h2,h3,h4⟩
   refine .nsq (.ret ?_)
   obtain rfl:=oi h
   exact rrC (zf h2) (zf h3) (zf h4) (xS (wH (zP (wl (o:=.of [])) (zP (yz (x:=(0:Int))) (zP (yz (x:=(false:Bool))) xA)))))
 refine .skip (.nsq (.seq (.seq (rg (g0 (ji 0) fun h5=>gq (.nsq (.block (.loop ?_))))))))
 exact zjE H x1 F 0 _ ⟨rfl,h2,h3,h4,h5⟩ h
end
def e13 (F:Nat):Ent:=ent 13 (fun (x:(GR×Unit))=>xR F x.1) (fun (r:(S3 LI Int Bool))=>(.tup [eL r.a,Enc.enc (r.b:Int),Enc.enc (r.c:Bool)])) 0 true []
abbrev C13 (D:List V→Option V) (F:Nat):Prop:=∀ (x0:GR) r,xR F x0=some r→D [Enc.enc x0]=some (.tup [eL r.a,Enc.enc (r.b:Int),Enc.enc (r.c:Bool)])
theorem p13 {F:Nat}:C13 (e13 F).den F:=fun x0 _ h=>zK (x0,()) h
theorem o13 (hF:zr Try.prog D σ) (H:H13 D σ F):(e13 F).Ok Try.prog:=okZ (f:=13) Try.func13 fun ⟨x0,_⟩ y hy=>cR hF Try.func13 c13 (t13 H x0 _ rfl hy)
def zri:AC:=(.seq (rr [jv 3 (.fld (.t 1) 0 0),jv 4 (.load .p (.t 3)),jk 5 4,jv 6 (.bin .shl (jn 1) (.t 5)),jv 7 (.bin .sub (.t 6) (jn 1)),jm 2 7]) .ret)
def A66:AC:=(.seq (.reg [.clr [1]] [jx 1 (.box (.t 0)),jv 2 (.mov (jn 0))] []) zri)
def zuG:List An:=[⟨0,[.clr [1]],[],[],[]⟩]
theorem c66:cq Try.prog Try.f66 zuG=some A66:=by kernel_rfl
structure H66 (D:Den) (σ:Sig) (F:Nat):Prop where
 mk ::
abbrev R66 (r:Int):(Nat→V)→Prop:=RR Try.prog [.tmp 2] 0 false (Enc.enc (r:Int))
section
variable {r:Int}
def yI (F:Nat) (x1:(S1 LI)):Option Int:=
 (uB .i64 1 (x1.a.length:Int)).bind fun q2=>
 some (w64 (q2 - 1))
theorem t66 (H:H66 D σ F) (x1:(S1 LI)) (s:Nat→V) (hs:zk [(0,.agg [eL x1.a])] s) (h:yI F x1=some r):Run D σ (R66 r) (.run A66 []) s:=by
 unfold yI at h
 have h0:=hs
 refine .seq (zo (zT ?_))
 refine ez [(0,_),(1,_)] ⟨za h0 rfl (zF (ze me zm)),zb rfl⟩ ?_
 rintro s ⟨h0,h1⟩
 refine xo (.agg [eL x1.a]) (zx h0 rfl) h1 rfl (g0 (ji 0) fun h2=>gq (.nsq (.seq (rg (g1 1 (.ref (.bx 1) 0 [0] (eL x1.a)) (rf (.ref (.bx 1) 0 [] (.agg [eL x1.a]))) fun h3=>g1 3 (eL x1.a) h3 fun h4=>gl x1.a h4 fun h5=>?_)))))
 obtain ⟨q2,Eq2,h⟩:=bind_some h
 refine gv (ji q2) (vW rfl h5 Eq2) fun h6=>g1 6 (ji (w64 (q2 - 1))) h6 fun h7=>gm h7 fun h2=>gq (.nsq (.ret ?_))
 obtain rfl:=oi h
 exact rrA (zf h2) rfl
end
def e66 (F:Nat):Ent:=ent 66 (fun (x:((S1 LI)×Unit))=>yI F x.1) (fun (r:Int)=>(Enc.enc (r:Int))) 0 false []
abbrev C66 (D:List V→Option V) (F:Nat):Prop:=∀ (x0:(S1 LI)) r,yI F x0=some r→D [Enc.enc x0]=some (Enc.enc (r:Int))
theorem p66 {F:Nat}:C66 (e66 F).den F:=fun x0 _ h=>zK (x0,()) h
theorem o66 (hF:zr Try.prog D σ) (H:H66 D σ F):(e66 F).Ok Try.prog:=okZ (f:=66) Try.func66 fun ⟨x0,_⟩ y hy=>cR hF Try.func66 c66 (t66 H x0 _ rfl hy)
def zkb:AC:=(.cond (.t 19) .skip (.exit 0))
def zbB:AC:=(.cond (.t 58) (rr [jm 59 7,jm 60 8,jm 61 11,jv 62 (.idx (.t 59) (.t 60) 1),jz (.store .s (.t 62) (.t 61))]) .skip)
def ziV:AC:=(.seq (rr [jm 49 9,jv 50 (.bin .eql (.t 49) (jn 0)),jm 51 50,jg 52 51 false (.mov (.t 11)),jg 53 51 false (.mov (.t 7)),jg 54 51 false (.mov (.t 8)),jg 55 51 false (.idx (.t 53) (.t 54) 1),jg 56 51 false (.load .s (.t 55)),jg 57 51 false (.bin .lss (.t 52) (.t 56)),jv 58 (.pick (.t 51) kt (.t 57))]) zbB)
def zkr:AC:=(.seq (rr [jm 37 2,jm 38 8,jm 39 10,jx 40 (.call (.t 37) [.t 38,.t 39]),jm 41 7,jm 42 8,jm 43 10,jv 44 (.bin .shl (jn 1) (.t 43)),jv 45 (.bin .or (.t 42) (.t 44)),jv 46 (.idx (.t 41) (.t 45) 1),jl 47 46,jv 48 (.mx [.t 40,.t 47]),jm 11 48]) ziV)
def M5:AC:=(rr [jv 63 (.bin .add (.t 32) (jn 1)),jm 32 63])
def zj6:AC:=(.seq (.block 3 (.seq (rr [jm 34 32,jv 35 (.idx (.t 30) (.t 32) 1),jl 36 35,jm 9 34,jm 10 36]) zkr)) M5)
def zj7:AC:=(.seq (.cond (.t 33) .skip (.exit 2)) zj6)
def Xo:AC:=(.seq (rr [jv 33 (.bin .lss (.t 32) (.t 31))]) zj7)
def zle:AC:=(.block 2 (.loop Xo))
def zkK:AC:=(.seq (rr [jv 26 (.load (.ag [.p]) (.t 3)),jx 27 (.call (jf 66) [.t 26]),jm 28 8,jv 29 (.bin .andNot (.t 27) (.t 28)),jx 30 (.call (jf 67) [.t 29]),jk 31 30,jv 32 (.mov (jn 0))]) zle)
def W0:AC:=(rr [jm 20 8,jv 21 (.bin .sub (.t 20) (jn 1)),jm 8 21])
def zkD:AC:=(.seq (.block 1 (.seq (rr [jm 22 7,jm 23 8,jm 24 1,jv 25 (.idx (.t 22) (.t 23) 1),jz (.store .s (.t 25) (.t 24))]) zkK)) W0)
def uS:AC:=(.seq (.seq (rr [jm 18 8,jv 19 (.bin .geq (.t 18) (jn 0))]) zkb) zkD)
def ZF:AC:=(.seq (.reg [] [jm 64 7,jm 6 64] [.home 7 6]) .ret)
def zjG:AC:=(.block 0 (.loop uS))
def zhV:AC:=(.seq (.seq (rr [jv 16 (.load (.ag [.p]) (.t 3)),jx 17 (.call (jf 66) [.t 16]),jm 8 17]) zjG) ZF)
def zhb:AC:=(.seq (.reg [.clr [15]] [jv 12 (.load (.ag [.p]) (.t 3)),jx 13 (.call (jf 66) [.t 12]),jv 14 (.bin .add (.t 13) (jn 1)),jx 15 (.mk (.t 14) i0 i0),jm 7 15] [.home 15 7]) zhV)
def zlz:AC:=(.seq (.reg [.clr [3]] [jx 3 (.box (.t 0)),jv 6 (.mov (.k (.sl .nl .s 0 [])))] []) zhb)
def zn3:List An:=[⟨0,[.clr [3]],[],[],[]⟩,⟨1,[.clr [15]],[],[],[.home 15 7]⟩,⟨13,[],[],[],[.home 7 6]⟩]
theorem c35s1:cq Try.prog Try.f35 zn3=some zlz:=by kernel_rfl
structure Nz (D:Den) (σ:Sig) (F:Nat):Prop where
 c66:C66 (D 66) F
 g66:σ 66=some (0,false)
 c67:C67 (D 67) F
 g67:σ 67=some (0,false)
 c36:C36 (D 36) F
 g36:σ 36=some (0,false)
abbrev Jz (r:LI):(Nat→V)→Prop:=RR Try.prog [.tmp 6] 0 false (eL r)
section
variable {r:LI}
def yQ (F:Nat) (x2:Int) (x3:(Cl 36 ((S1 LI)×Unit) Unit)) (x1:(S1 LI)) (x43:Int) (r81:LI) (x93:Int) (c1:LI→Int→Option LI) (c4:LI→Int→Option LI) (x111:LI):Option LI:=
 c4 x111 (w64 (x93 + 1))
theorem Nh (H:Nz D σ F) (x2:Int) (x3:(Cl 36 ((S1 LI)×Unit) Unit)) (x1:(S1 LI)) (x43:Int) (r81:LI) (x93:Int) (c1:LI→Int→Option LI) (Hc1:∀ (x42:LI) (x43:Int) (s:Nat→V),zk [(1,ji x2),(2,.fn 36 [.agg [eL x3.fs.1.a]] []),(3,.ref (.bx 3) 0 [] (.agg [eL x1.a])),(6,nI),(7,oI 7 [] (.of x42)),(8,ji x43)] s→c1 x42 x43=some r→Run D σ (Jz r) (.run uS [.lp uS,.bk 0,.sq ZF]) s) (c4:LI→Int→Option LI) (Hc4:∀ (x92:LI) (x93:Int) (s:Nat→V),zk [(1,ji x2),(2,.fn 36 [.agg [eL x3.fs.1.a]] []),(3,.ref (.bx 3) 0 [] (.agg [eL x1.a])),(6,nI),(7,oI 7 [] (.of x92)),(8,ji x43),(30,eL r81),(31,ji (r81.length:Int)),(32,ji x93)] s→c4 x92 x93=some r→Run D σ (Jz r) (.run Xo [.lp Xo,.bk 2,.bk 1,.sq W0,.lp uS,.bk 0,.sq ZF]) s) (x111:LI) (s:Nat→V) (hs:zk [(1,ji x2),(2,.fn 36 [.agg [eL x3.fs.1.a]] []),(3,.ref (.bx 3) 0 [] (.agg [eL x1.a])),(6,nI),(7,oI 7 [] (.of x111)),(8,ji x43),(30,eL r81),(31,ji (r81.length:Int)),(32,ji x93)] s) (h:yQ F x2 x3 x1 x43 r81 x93 c1 c4 x111=some r):Run D σ (Jz r) (.nrm [.bk 3,.sq M5,.lp Xo,.bk 2,.bk 1,.sq W0,.lp uS,.bk 0,.sq ZF]) s:=by
 unfold yQ at h
 obtain ⟨h1,h2,h3,h6,h7,h8,h30,h31,h32⟩:=hs
 refine .nbk (.nsq (rg (g1 32 (ji (w64 (x93 + 1))) h32 fun h63=>gm h63 fun h32=>gq (.nlp ?_))))
 exact Hc4 x111 (w64 (x93 + 1)) _ ⟨h1,h2,h3,h6,h7,h8,h30,h31,h32⟩ h
def yS (F:Nat) (x2:Int) (x3:(Cl 36 ((S1 LI)×Unit) Unit)) (x1:(S1 LI)) (x92:LI) (x43:Int) (v107:Int) (r105:Int) (r81:LI) (x93:Int) (c1:LI→Int→Option LI) (c4:LI→Int→Option LI) (x109:Bool):Option LI:=
 bif x109 then
  (idx x92 x43).bind fun v112=>
  yQ F x2 x3 x1 x43 r81 x93 c1 c4 (x92.set x43.toNat (if v107 > r105 then v107 else r105))
 else
  yQ F x2 x3 x1 x43 r81 x93 c1 c4 x92
theorem M6 (H:Nz D σ F) (x2:Int) (x3:(Cl 36 ((S1 LI)×Unit) Unit)) (x1:(S1 LI)) (x92:LI) (x43:Int) (v107:Int) (r105:Int) (r81:LI) (x93:Int) (c1:LI→Int→Option LI) (Hc1:∀ (x42:LI) (x43:Int) (s:Nat→V),zk [(1,ji x2),(2,.fn 36 [.agg [eL x3.fs.1.a]] []),(3,.ref (.bx 3) 0 [] (.agg [eL x1.a])),(6,nI),(7,oI 7 [] (.of x42)),(8,ji x43)] s→c1 x42 x43=some r→Run D σ (Jz r) (.run uS [.lp uS,.bk 0,.sq ZF]) s) (c4:LI→Int→Option LI) (Hc4:∀ (x92:LI) (x93:Int) (s:Nat→V),zk [(1,ji x2),(2,.fn 36 [.agg [eL x3.fs.1.a]] []),(3,.ref (.bx 3) 0 [] (.agg [eL x1.a])),(6,nI),(7,oI 7 [] (.of x92)),(8,ji x43),(30,eL r81),(31,ji (r81.length:Int)),(32,ji x93)] s→c4 x92 x93=some r→Run D σ (Jz r) (.run Xo [.lp Xo,.bk 2,.bk 1,.sq W0,.lp uS,.bk 0,.sq ZF]) s) (x109:Bool) (s:Nat→V) (hs:zk [(1,ji x2),(2,.fn 36 [.agg [eL x3.fs.1.a]] []),(3,.ref (.bx 3) 0 [] (.agg [eL x1.a])),(6,nI),(7,oI 7 [] (.of x92)),(8,ji x43),(11,ji (if v107 > r105 then v107 else r105)),(30,eL r81),(31,ji (r81.length:Int)),(32,ji x93),(58,jb x109)] s) (h:yS F x2 x3 x1 x92 x43 v107 r105 r81 x93 c1 c4 x109=some r):Run D σ (Jz r) (.nrm [.sq zbB,.bk 3,.sq M5,.lp Xo,.bk 2,.bk 1,.sq W0,.lp uS,.bk 0,.sq ZF]) s:=by
 unfold yS at h
 obtain ⟨h1,h2,h3,h6,h7,h8,h11,h30,h31,h32,h58⟩:=hs
 refine .nsq (zg h58 h (fun h=>?_) (fun h=>?_))
 · refine rg (gm h7 fun h59=>gm h8 fun h60=>gm h11 fun h61=>?_)
   obtain ⟨v112,Ev112,h⟩:=bind_some h
   refine gv (.ref (.at 7 []) x43.toNat [] (ji v112)) (wU (o:=.of x92) h59 h60 Ev112 rfl) fun h62=>yd (ji (if v107 > r105 then v107 else r105)) (zx h62 rfl) (zx h61 rfl) (ww (by first | rfl | simp [V.toks,V.tokss,Enc.toks_enc,ya])) ?_
   refine gz [(1,ji x2),(2,.fn 36 [.agg [eL x3.fs.1.a]] []),(3,.ref (.bx 3) 0 [] (.agg [eL x1.a])),(6,nI),(7,_),(8,ji x43),(30,eL r81),(31,ji (r81.length:Int)),(32,ji x93)] ⟨zd h1 rfl,zd h2 (zbr (zq (yD (zq uE rfl)) rfl) rfl),zd h3 (zH rfl rfl (yD (zq uE rfl))),zd h6 rfl,zd h7 Xh,zd h8 rfl,zd h30 uE,zd h31 rfl,zd h32 rfl⟩ ?_
   rintro s ⟨h1,h2,h3,h6,h7,h8,h30,h31,h32⟩
   exact Nh H x2 x3 x1 x43 r81 x93 c1 Hc1 c4 Hc4 (x92.set x43.toNat (if v107 > r105 then v107 else r105)) _ ⟨h1,h2,h3,h6,h7,h8,h30,h31,h32⟩ h
 refine .skip ?_
 exact Nh H x2 x3 x1 x43 r81 x93 c1 Hc1 c4 Hc4 x92 _ ⟨h1,h2,h3,h6,h7,h8,h30,h31,h32⟩ h
def zR (F:Nat) (x2:Int) (x3:(Cl 36 ((S1 LI)×Unit) Unit)) (x1:(S1 LI)) (x43:Int) (r81:LI) (c1:LI→Int→Option LI):Nat→LI→Int→Option LI
 | 0,_,_=>none
 | k + 1,x92,x93=>
   bif decide (x93 < (r81.length:Int)) then
    (idx r81 x93).bind fun v104=>
    (ve F x3.fs.1 x43 v104).bind fun r105=>
    (uB .i64 1 v104).bind fun q106=>
    (idx x92 (ior .i64 x43 q106)).bind fun v107=>
    bif (x93 == 0) then
     yS F x2 x3 x1 x92 x43 v107 r105 r81 x93 c1 (zR F x2 x3 x1 x43 r81 c1 k) true
    else
     (idx x92 x43).bind fun v113=>
     yS F x2 x3 x1 x92 x43 v107 r105 r81 x93 c1 (zR F x2 x3 x1 x43 r81 c1 k) (decide ((if v107 > r105 then v107 else r105) < v113))
   else
    c1 x92 (w64 (x43 - 1))
theorem zc9 (H:Nz D σ F) (x2:Int) (x3:(Cl 36 ((S1 LI)×Unit) Unit)) (x1:(S1 LI)) (x43:Int) (r81:LI) (c1:LI→Int→Option LI) (Hc1:∀ (x42:LI) (x43:Int) (s:Nat→V),zk [(1,ji x2),(2,.fn 36 [.agg [eL x3.fs.1.a]] []),(3,.ref (.bx 3) 0 [] (.agg [eL x1.a])),(6,nI),(7,oI 7 [] (.of x42)),(8,ji x43)] s→c1 x42 x43=some r→Run D σ (Jz r) (.run uS [.lp uS,.bk 0,.sq ZF]) s):∀ (k:Nat) (x92:LI) (x93:Int) (s:Nat→V),zk [(1,ji x2),(2,.fn 36 [.agg [eL x3.fs.1.a]] []),(3,.ref (.bx 3) 0 [] (.agg [eL x1.a])),(6,nI),(7,oI 7 [] (.of x92)),(8,ji x43),(30,eL r81),(31,ji (r81.length:Int)),(32,ji x93)] s→zR F x2 x3 x1 x43 r81 c1 k x92 x93=some r→Run D σ (Jz r) (.run Xo [.lp Xo,.bk 2,.bk 1,.sq W0,.lp uS,.bk 0,.sq ZF]) s:=by
 intro k
 induction k with
 | zero=>intro x92 x93 s _ h;exact nm h
 | succ k ih=>
   intro x92 x93 s hs h
   rw [zR] at h
   obtain ⟨h1,h2,h3,h6,h7,h8,h30,h31,h32⟩:=hs
   refine .seq (rg (g2 32 31 (jb (decide (x93 < (r81.length:Int)))) h32 h31 fun h33=>gq (.nsq (.seq (zg h33 h (fun h=>?_) (fun h=>?_))))))
   · refine .skip (.nsq (.seq (.block (.seq (rg (gm h32 fun h34=>?_))))))
     obtain ⟨v104,Ev104,h⟩:=bind_some h
     refine gv (.ref .sh 0 [] (ji v104)) (yq (t:=.sh) (lo:=0) (xs:=r81) h30 h32 Ev104 rfl rfl) fun h35=>g1 35 (ji v104) h35 fun h36=>gm h34 fun h9=>gm h36 fun h10=>gq (.nsq (.seq (rg (gm h2 fun h37=>gm h8 fun h38=>gm h10 fun h39=>?_))))
     obtain ⟨r105,Er105,h⟩:=bind_some h
     refine QK (m:=0) (al:=false) (r:=Enc.enc (r105:Int)) (fs:=[.agg [eL x3.fs.1.a]]) (env:=[]) (us:=[Enc.enc (x3.fs.1:(S1 LI))]) (ws:=[]) h37 (um (Enc.erase_enc (x3.fs.1:(S1 LI))) wz) wz rfl [Enc.enc (x43:Int),Enc.enc (v104:Int)] (zc (v:=ji x43) h38 rfl rfl (zc (v:=ji v104) h39 rfl rfl zp)) (H.c36 _ _ _ _ Er105) H.g36 rfl rfl rfl rfl (gm h7 fun h41=>gm h8 fun h42=>gm h10 fun h43=>?_)
     obtain ⟨q106,Eq106,h⟩:=bind_some h
     refine gv (ji q106) (vW rfl h43 Eq106) fun h44=>g2 42 44 (ji (ior .i64 x43 q106)) h42 h44 fun h45=>?_
     obtain ⟨v107,Ev107,h⟩:=bind_some h
     refine gv (.ref (.at 7 []) ((ior .i64 x43 q106).toNat) [] (ji v107)) (wU (o:=.of x92) h41 h45 Ev107 rfl) fun h46=>g1 46 (ji v107) h46 fun h47=>g2 40 47 (ji (if v107 > r105 then v107 else r105)) (rf (ji r105)) h47 fun h48=>gm h48 fun h11=>gq (.nsq (.seq (rg (gm h9 fun h49=>g1 49 (jb (x93 == 0)) h49 fun h50=>gm h50 fun h51=>zU h (fun hg3 h=>?_) (fun hg3 h=>?_)))))
     · iterate 6 refine zw (ct h51 hg3) ?_
       refine g2 51 57 (jb true) (ct h51 hg3) (rf (.tup [])) fun h58=>gz [(1,_),(2,_),(3,_),(6,_),(7,_),(8,_),(11,_),(30,_),(31,_),(32,_),(58,_)] ⟨h1,h2,h3,h6,h7,h8,h11,h30,h31,h32,h58⟩ ?_
       rintro s ⟨h1,h2,h3,h6,h7,h8,h11,h30,h31,h32,h58⟩
       exact M6 H x2 x3 x1 x92 x43 v107 r105 r81 x93 c1 Hc1 (zR F x2 x3 x1 x43 r81 c1 k) ih true _ ⟨h1,h2,h3,h6,h7,h8,h11,h30,h31,h32,h58⟩ h
     refine zh (ct h51 hg3) (gm h11 fun h52=>zh (ct h51 hg3) (gm h7 fun h53=>zh (ct h51 hg3) (gm h8 fun h54=>?_)))
     obtain ⟨v113,Ev113,h⟩:=bind_some h
     refine zh (ct h51 hg3) (gv (.ref (.at 7 []) x43.toNat [] (ji v113)) (wU (o:=.of x92) h53 h54 Ev113 rfl) fun h55=>zh (ct h51 hg3) (g1 55 (ji v113) h55 fun h56=>zh (ct h51 hg3) (g2 52 56 (jb (decide ((if v107 > r105 then v107 else r105) < v113))) h52 h56 fun h57=>g2 51 57 (jb (decide ((if v107 > r105 then v107 else r105) < v113))) (ct h51 hg3) h57 fun h58=>gz [(1,_),(2,_),(3,_),(6,_),(7,_),(8,_),(11,_),(30,_),(31,_),(32,_),(58,_)] ⟨h1,h2,h3,h6,h7,h8,h11,h30,h31,h32,h58⟩ ?_)))
     rintro s ⟨h1,h2,h3,h6,h7,h8,h11,h30,h31,h32,h58⟩
     exact M6 H x2 x3 x1 x92 x43 v107 r105 r81 x93 c1 Hc1 (zR F x2 x3 x1 x43 r81 c1 k) ih (decide ((if v107 > r105 then v107 else r105) < v113)) _ ⟨h1,h2,h3,h6,h7,h8,h11,h30,h31,h32,h58⟩ h
   refine .exit (.esq (.elp (.ebk (.nbk (.nsq (rg (gm h8 fun h20=>g1 20 (ji (w64 (x43 - 1))) h20 fun h21=>gm h21 fun h8=>gq (.nlp ?_))))))))
   exact Hc1 x92 (w64 (x43 - 1)) _ ⟨h1,h2,h3,h6,h7,h8⟩ h
def zM (F:Nat) (x2:Int) (x3:(Cl 36 ((S1 LI)×Unit) Unit)) (x1:(S1 LI)) :Nat→LI→Int→Option LI
 | 0,_,_=>none
 | k + 1,x42,x43=>
   bif decide (x43≥0) then
    (idx x42 x43).bind fun v79=>
    (yI F x1).bind fun r80=>
    (uU F (xp .i64 r80 x43)).bind fun r81=>
    zR F x2 x3 x1 x43 r81 (zM F x2 x3 x1 k) F (x42.set x43.toNat x2) 0
   else
    some x42
theorem zdC (H:Nz D σ F) (x2:Int) (x3:(Cl 36 ((S1 LI)×Unit) Unit)) (x1:(S1 LI)) :∀ (k:Nat) (x42:LI) (x43:Int) (s:Nat→V),zk [(1,ji x2),(2,.fn 36 [.agg [eL x3.fs.1.a]] []),(3,.ref (.bx 3) 0 [] (.agg [eL x1.a])),(6,nI),(7,oI 7 [] (.of x42)),(8,ji x43)] s→zM F x2 x3 x1 k x42 x43=some r→Run D σ (Jz r) (.run uS [.lp uS,.bk 0,.sq ZF]) s:=by
 intro k
 induction k with
 | zero=>intro x42 x43 s _ h;exact nm h
 | succ k ih=>
   intro x42 x43 s hs h
   rw [zM] at h
   obtain ⟨h1,h2,h3,h6,h7,h8⟩:=hs
   refine .seq (.seq (rg (gm h8 fun h18=>g1 18 (jb (decide (x43≥0))) h18 fun h19=>gq (.nsq (zg h19 h (fun h=>?_) (fun h=>?_))))))
   · refine .skip (.nsq (.seq (.block (.seq (rg (gm h7 fun h22=>gm h8 fun h23=>gm h1 fun h24=>?_))))))
     obtain ⟨v79,Ev79,h⟩:=bind_some h
     refine gv (.ref (.at 7 []) x43.toNat [] (ji v79)) (wU (o:=.of x42) h22 h23 Ev79 rfl) fun h25=>yd (ji x2) (zx h25 rfl) (zx h24 rfl) (ww (by first | rfl | simp [V.toks,V.tokss,Enc.toks_enc,ya])) (gz [(1,ji x2),(2,.fn 36 [.agg [eL x3.fs.1.a]] []),(3,.ref (.bx 3) 0 [] (.agg [eL x1.a])),(6,nI),(7,_),(8,ji x43)] ⟨zd h1 rfl,zd h2 (zbr (zq (yD (zq uE rfl)) rfl) rfl),zd h3 (zH rfl rfl (yD (zq uE rfl))),zd h6 rfl,zd h7 Xh,zd h8 rfl⟩ ?_)
     rintro s ⟨h1,h2,h3,h6,h7,h8⟩
     refine .nsq (.seq (rg (g1 3 (.agg [eL x1.a]) h3 fun h26=>?_)))
     obtain ⟨r80,Er80,h⟩:=bind_some h
     refine zy (m:=0) (al:=false) (r:=Enc.enc (r80:Int)) [Enc.enc (x1:(S1 LI))] (zc (v:=.agg [eL x1.a]) h26 rfl (Enc.erase_enc (x1:(S1 LI))) zp) (H.c66 _ _ Er80) H.g66 rfl rfl rfl rfl (gm h8 fun h28=>g2 27 28 (ji (xp .i64 r80 x43)) (rf (ji r80)) h28 fun h29=>?_)
     obtain ⟨r81,Er81,h⟩:=bind_some h
     refine zy (m:=0) (al:=false) (r:=eL r81) [Enc.enc (xp .i64 r80 x43:Int)] (zc (v:=ji (xp .i64 r80 x43)) h29 rfl rfl zp) (H.c67 _ _ Er81) H.g67 rfl rfl rfl rfl (gl r81 rfl fun h31=>g0 (ji 0) fun h32=>gq (.nsq (.block (.loop ?_))))
     exact zc9 H x2 x3 x1 x43 r81 (zM F x2 x3 x1 k) ih F (x42.set x43.toNat x2) 0 _ ⟨h1,h2,h3,h6,h7,h8,rfl,h31,h32⟩ h
   refine .exit (.esq (.elp (.ebk (.nsq (.seq (rg (gm h7 fun h64=>gm h64 fun h6=>yL (yr (r:=7) (x:=6) (v:=_) h6 rfl (fun s4 hz4=>?_)))))))))
   refine ez [(6,oI 6 [] (.of x42))] (hz4 6 _ _ h6 (zl (r:=7) (p:=[]) rfl rfl)) ?_
   rintro s h6
   refine .nsq (.ret ?_)
   obtain rfl:=oi h
   exact rrA (zf h6) (ud (wl (o:=.of x42)) (wx rfl))
def ye (F:Nat) (x1:(S1 LI)) (x2:Int) (x3:(Cl 36 ((S1 LI)×Unit) Unit)):Option LI:=
 (yI F x1).bind fun r4=>
 (mkN (w64 (r4 + 1)) (0:Int)).bind fun mk5=>
 (yI F x1).bind fun r6=>
 zM F x2 x3 x1 F mk5 r6
theorem zqD (H:Nz D σ F) (x1:(S1 LI)) (x2:Int) (x3:(Cl 36 ((S1 LI)×Unit) Unit)) (s:Nat→V) (hs:zk [(0,.agg [eL x1.a]),(1,ji x2),(2,.fn 36 [.agg [eL x3.fs.1.a]] [])] s) (h:ye F x1 x2 x3=some r):Run D σ (Jz r) (.run zlz []) s:=by
 unfold ye at h
 obtain ⟨h0,h1,h2⟩:=hs
 refine .seq (zo (zT ?_))
 refine ez [(0,_),(1,_),(2,_),(3,_)] ⟨za h0 rfl (zF (ze me zm)),za h1 rfl mi,za h2 rfl (Wf (ze (zF (ze me zm)) zm) zm),zb rfl⟩ ?_
 rintro s ⟨h0,h1,h2,h3⟩
 refine xo (.agg [eL x1.a]) (zx h0 rfl) h3 rfl (g0 nI fun h6=>gq (.nsq (.seq (zo (zT ?_)))))
 refine ez [(1,_),(2,_),(3,_),(6,_),(15,_)] ⟨za h1 rfl mi,za h2 rfl (Wf (ze (zF (ze me zm)) zm) zm),za rfl rfl (zi rfl (zF (ze me zm))),za h6 rfl rfl,zb rfl⟩ ?_
 rintro s ⟨h1,h2,h3,h6,h15⟩
 refine g1 3 (.agg [eL x1.a]) h3 fun h12=>?_
 obtain ⟨r4,Er4,h⟩:=bind_some h
 refine zy (m:=0) (al:=false) (r:=Enc.enc (r4:Int)) [Enc.enc (x1:(S1 LI))] (zc (v:=.agg [eL x1.a]) h12 rfl (Enc.erase_enc (x1:(S1 LI))) zp) (H.c66 _ _ Er4) H.g66 rfl rfl rfl rfl (g1 13 (ji (w64 (r4 + 1))) (rf (ji r4)) fun h14=>?_)
 obtain ⟨mk5,Emk5,h⟩:=bind_some h
 refine zkL (0:Int) h14 rfl h15 Emk5 (gm (rf (oI 15 [] (.of mk5))) fun h7=>yL (yr (r:=15) (x:=7) (v:=_) h7 rfl (fun s3 hz3=>?_)))
 refine ez [(1,ji x2),(2,.fn 36 [.agg [eL x3.fs.1.a]] []),(3,.ref (.bx 3) 0 [] (.agg [eL x1.a])),(6,nI),(7,oI 7 [] (.of mk5))] ⟨hz3 1 _ _ h1 mi,hz3 2 _ _ h2 (Wf (ze (zF (ze me zm)) zm) zm),hz3 3 _ _ h3 (zi rfl (zF (ze me zm))),hz3 6 _ _ h6 rfl,hz3 7 _ _ h7 (zl (r:=15) (p:=[]) rfl rfl)⟩ ?_
 rintro s ⟨h1,h2,h3,h6,h7⟩
 refine .nsq (.seq (.seq (rg (g1 3 (.agg [eL x1.a]) h3 fun h16=>?_))))
 obtain ⟨r6,Er6,h⟩:=bind_some h
 refine zy (m:=0) (al:=false) (r:=Enc.enc (r6:Int)) [Enc.enc (x1:(S1 LI))] (zc (v:=.agg [eL x1.a]) h16 rfl (Enc.erase_enc (x1:(S1 LI))) zp) (H.c66 _ _ Er6) H.g66 rfl rfl rfl rfl (gm (rf (ji r6)) fun h8=>gq (.nsq (.block (.loop ?_))))
 exact zdC H x2 x3 x1 F mk5 r6 _ ⟨h1,h2,h3,h6,h7,h8⟩ h
end
def zjh (F:Nat):Ent:=ent 35 (fun (x:((S1 LI)×Int×(Cl 36 ((S1 LI)×Unit) Unit)×Unit))=>ye F x.1 x.2.1 x.2.2.1) (fun (r:LI)=>(eL r)) 0 false [(2,36)]
abbrev zlL (D:List V→Option V) (F:Nat):Prop:=∀ (x0:(S1 LI)) (x1:Int) (x2:(Cl 36 ((S1 LI)×Unit) Unit)) r,ye F x0 x1 x2=some r→D [Enc.enc x0,Enc.enc x1,Arg.arg x2]=some (eL r)
theorem zo9 {F:Nat}:zlL (zjh F).den F:=fun x0 x1 x2 _ h=>zK (x0,x1,x2,()) h
theorem zoM (hF:zr Try.prog D σ) (H:Nz D σ F):(zjh F).Ok Try.prog:=okZ (f:=35) Try.func35 fun ⟨x0,x1,x2,_⟩ y hy=>cR hF Try.func35 c35s1 (zqD H x0 x1 x2 _ ⟨rfl,rfl,rfl⟩ hy)
def zke:AC:=(.cond (.t 14) .skip (.exit 0))
def zio:AC:=(.seq (rr [jm 45 8,jm 46 10,jv 47 (.bin .shl (jn 1) (.t 46)),jv 48 (.bin .or (.t 45) (.t 47)),jm 8 48]) (.exit 2))
def zkf:AC:=(.cond (.t 40) (.seq (.reg [.clr [43,44]] [jm 41 7,jm 42 10,jx 43 (.lit i0 1 [(0,0,.t 42)]),jx 44 (.app .s (.t 41) (.t 43)),jm 7 44] [.home 44 7]) zio) .skip)
def zkm:AC:=(.seq (rr [jm 25 2,jm 26 8,jm 27 10,jx 28 (.call (.t 25) [.t 26,.t 27]),jm 29 1,jm 30 8,jm 31 10,jv 32 (.bin .shl (jn 1) (.t 31)),jv 33 (.bin .or (.t 30) (.t 32)),jv 34 (.idx (.t 29) (.t 33) 1),jl 35 34,jv 36 (.mx [.t 28,.t 35]),jm 37 1,jv 38 (.idx (.t 37) (jn 0) 1),jl 39 38,jv 40 (.bin .leq (.t 36) (.t 39))]) zkf)
def zis:AC:=(rr [jv 49 (.bin .add (.t 21) (jn 1)),jm 21 49])
def zk9:AC:=(.seq (.block 3 (.seq (rr [jv 23 (.idx (.t 19) (.t 21) 1),jl 24 23,jm 10 24]) zkm)) zis)
def zk8:AC:=(.seq (.cond (.t 22) .skip (.exit 2)) zk9)
def zau:AC:=(.seq (rr [jv 22 (.bin .lss (.t 21) (.t 20))]) zk8)
def zj9:AC:=(.block 2 (.loop zau))
def zkg:AC:=(.block 1 (.seq (rr [jv 15 (.load (.ag [.p]) (.t 3)),jx 16 (.call (jf 66) [.t 15]),jm 17 8,jv 18 (.bin .andNot (.t 16) (.t 17)),jx 19 (.call (jf 67) [.t 18]),jk 20 19,jv 21 (.mov (jn 0))]) zj9))
def U6:AC:=(.seq (.seq (rr [jm 11 8,jv 12 (.load (.ag [.p]) (.t 3)),jx 13 (.call (jf 66) [.t 12]),jv 14 (.bin .neq (.t 11) (.t 13))]) zke) zkg)
def J4:AC:=(.seq (.reg [] [jm 50 7,jm 6 50] [.home 7 6]) .ret)
def zhR:AC:=(.block 0 (.loop U6))
def zhF:AC:=(.seq (.seq (rr [jv 8 (.mov (jn 0))]) zhR) J4)
def zjK:AC:=(.seq (rr [jv 7 (.mov (.k (.sl .nl .s 0 [])))]) zhF)
def zl6:AC:=(.seq (.reg [.clr [3]] [jx 3 (.box (.t 0)),jv 6 (.mov (.k (.sl .nl .s 0 [])))] []) zjK)
def zmp:List An:=[⟨0,[.clr [3]],[],[],[]⟩,⟨8,[.clr [43,44]],[],[],[.home 44 7]⟩,⟨11,[],[],[],[.home 7 6]⟩]
theorem c37s1:cq Try.prog Try.f37 zmp=some zl6:=by kernel_rfl
structure zfp (D:Den) (σ:Sig) (F:Nat):Prop where
 c66:C66 (D 66) F
 g66:σ 66=some (0,false)
 c67:C67 (D 67) F
 g67:σ 67=some (0,false)
 c36:C36 (D 36) F
 g36:σ 36=some (0,false)
abbrev ze7 (r:LI):(Nat→V)→Prop:=RR Try.prog [.tmp 6] 0 false (eL r)
section
variable {r:LI}
def yu (F:Nat) (x2:LI) (x3:(Cl 36 ((S1 LI)×Unit) Unit)) (x1:(S1 LI)) (x35:(NL Int)) (x36:Int) (r70:LI) (c1:(NL Int)→Int→Option LI):Nat→Int→Option LI
 | 0,_=>none
 | k + 1,x80=>
   bif decide (x80 < (r70.length:Int)) then
    (idx r70 x80).bind fun v90=>
    (ve F x3.fs.1 x36 v90).bind fun r91=>
    (uB .i64 1 v90).bind fun q92=>
    (idx x2 (ior .i64 x36 q92)).bind fun v93=>
    (idx x2 0).bind fun v94=>
    bif decide ((if v93 > r91 then v93 else r91)≤v94) then
     (wJ x35.list [v90]).bind fun ap97=>
     (uB .i64 1 v90).bind fun q98=>
     c1 (.of ap97) (ior .i64 x36 q98)
    else
     (yu F x2 x3 x1 x35 x36 r70 c1 k) (w64 (x80 + 1))
   else
    c1 x35 x36
theorem zdr (H:zfp D σ F) (x2:LI) (x3:(Cl 36 ((S1 LI)×Unit) Unit)) (x1:(S1 LI)) (x35:(NL Int)) (x36:Int) (r70:LI) (c1:(NL Int)→Int→Option LI) (Hc1:∀ (x35:(NL Int)) (x36:Int) (s:Nat→V),zk [(1,eL x2),(2,.fn 36 [.agg [eL x3.fs.1.a]] []),(3,.ref (.bx 3) 0 [] (.agg [eL x1.a])),(6,nI),(7,oI 7 [] x35),(8,ji x36)] s→c1 x35 x36=some r→Run D σ (ze7 r) (.run U6 [.lp U6,.bk 0,.sq J4]) s):∀ (k:Nat) (x80:Int) (s:Nat→V),zk [(1,eL x2),(2,.fn 36 [.agg [eL x3.fs.1.a]] []),(3,.ref (.bx 3) 0 [] (.agg [eL x1.a])),(6,nI),(7,oI 7 [] x35),(8,ji x36),(19,eL r70),(20,ji (r70.length:Int)),(21,ji x80)] s→yu F x2 x3 x1 x35 x36 r70 c1 k x80=some r→Run D σ (ze7 r) (.run zau [.lp zau,.bk 2,.bk 1,.lp U6,.bk 0,.sq J4]) s:=by
 intro k
 induction k with
 | zero=>intro x80 s _ h;exact nm h
 | succ k ih=>
   intro x80 s hs h
   rw [yu] at h
   obtain ⟨h1,h2,h3,h6,h7,h8,h19,h20,h21⟩:=hs
   refine .seq (rg (g2 21 20 (jb (decide (x80 < (r70.length:Int)))) h21 h20 fun h22=>gq (.nsq (.seq (zg h22 h (fun h=>?_) (fun h=>?_))))))
   · refine .skip (.nsq (.seq (.block (.seq (rg ?_)))))
     obtain ⟨v90,Ev90,h⟩:=bind_some h
     refine gv (.ref .sh 0 [] (ji v90)) (yq (t:=.sh) (lo:=0) (xs:=r70) h19 h21 Ev90 rfl rfl) fun h23=>g1 23 (ji v90) h23 fun h24=>gm h24 fun h10=>gq (.nsq (.seq (rg (gm h2 fun h25=>gm h8 fun h26=>gm h10 fun h27=>?_))))
     obtain ⟨r91,Er91,h⟩:=bind_some h
     refine QK (m:=0) (al:=false) (r:=Enc.enc (r91:Int)) (fs:=[.agg [eL x3.fs.1.a]]) (env:=[]) (us:=[Enc.enc (x3.fs.1:(S1 LI))]) (ws:=[]) h25 (um (Enc.erase_enc (x3.fs.1:(S1 LI))) wz) wz rfl [Enc.enc (x36:Int),Enc.enc (v90:Int)] (zc (v:=ji x36) h26 rfl rfl (zc (v:=ji v90) h27 rfl rfl zp)) (H.c36 _ _ _ _ Er91) H.g36 rfl rfl rfl rfl (gm h1 fun h29=>gm h8 fun h30=>gm h10 fun h31=>?_)
     obtain ⟨q92,Eq92,h⟩:=bind_some h
     refine gv (ji q92) (vW rfl h31 Eq92) fun h32=>g2 30 32 (ji (ior .i64 x36 q92)) h30 h32 fun h33=>?_
     obtain ⟨v93,Ev93,h⟩:=bind_some h
     refine gv (.ref .sh 0 [] (ji v93)) (yq (t:=.sh) (lo:=0) (xs:=x2) h29 h33 Ev93 rfl rfl) fun h34=>g1 34 (ji v93) h34 fun h35=>g2 28 35 (ji (if v93 > r91 then v93 else r91)) (rf (ji r91)) h35 fun h36=>gm h1 fun h37=>?_
     obtain ⟨v94,Ev94,h⟩:=bind_some h
     refine gv (.ref .sh 0 [] (ji v94)) (yq (t:=.sh) (lo:=0) (xs:=x2) h37 rfl Ev94 rfl rfl) fun h38=>g1 38 (ji v94) h38 fun h39=>g2 36 39 (jb (decide ((if v93 > r91 then v93 else r91)≤v94))) h36 h39 fun h40=>gz [(1,_),(2,_),(3,_),(6,_),(7,_),(8,_),(10,_),(19,_),(20,_),(21,_),(40,_)] ⟨h1,h2,h3,h6,h7,h8,h10,h19,h20,h21,h40⟩ ?_
     rintro s ⟨h1,h2,h3,h6,h7,h8,h10,h19,h20,h21,h40⟩
     refine .nsq (zg h40 h (fun h=>?_) (fun h=>?_))
     · refine .seq (zo (zT ?_))
       refine ez [(1,_),(2,_),(3,_),(6,_),(7,_),(8,_),(10,_),(19,_),(20,_),(21,_),(43,_),(44,_)] ⟨za h1 rfl me,za h2 rfl (Wf (ze (zF (ze me zm)) zm) zm),za h3 rfl (zi rfl (zF (ze me zm))),za h6 rfl rfl,za h7 rfl (zl (r:=7) (p:=[]) rfl rfl),za h8 rfl mi,za h10 rfl mi,za h19 rfl me,za h20 rfl mi,za h21 rfl mi,zb rfl,zb rfl⟩ ?_
       rintro s ⟨h1,h2,h3,h6,h7,h8,h10,h19,h20,h21,h43,h44⟩
       refine gv (oI 7 [] x35) (Wm h7 ZL) fun h41=>gm h10 fun h42=>xq [(42,ji v90)] [Enc.enc (v90:Int)] h42 rfl rfl h43 ?_
       obtain ⟨ap97,Eap97,h⟩:=bind_some h
       refine Xd (q:=7) (p:=[]) (o:=(x35:NL Int)) (ys:=([v90]:LI)) (t2:=.at 43 []) (lo2:=0) h41 rfl rfl h44 (ZB (o:=(x35:NL Int)) Eap97 (by split <;> simp)) (fun s54 ha54=>gm (rf (oI 44 [] (.of ap97))) fun h7=>yL (yr (r:=44) (x:=7) (v:=_) h7 rfl (fun s55 hz55=>?_)))
       refine ez [(1,eL x2),(2,.fn 36 [.agg [eL x3.fs.1.a]] []),(3,.ref (.bx 3) 0 [] (.agg [eL x1.a])),(6,nI),(7,oI 7 [] (.of ap97)),(8,ji x36),(10,ji v90),(19,eL r70),(20,ji (r70.length:Int)),(21,ji x80)] ⟨hz55 1 _ _ (show s54 1=(eL x2) from zL ha54 h1 me) me,hz55 2 _ _ (show s54 2=(.fn 36 [.agg [eL x3.fs.1.a]] []) from zL ha54 h2 (Wf (ze (zF (ze me zm)) zm) zm)) (Wf (ze (zF (ze me zm)) zm) zm),hz55 3 _ _ (show s54 3=(.ref (.bx 3) 0 [] (.agg [eL x1.a])) from zL ha54 h3 (zi rfl (zF (ze me zm)))) (zi rfl (zF (ze me zm))),hz55 6 _ nI (show s54 6=nI from zL ha54 h6 rfl) rfl,hz55 7 _ _ h7 (zl (r:=44) (p:=[]) rfl rfl),hz55 8 _ _ (show s54 8=(ji x36) from zL ha54 h8 mi) mi,hz55 10 _ _ (show s54 10=(ji v90) from zL ha54 h10 mi) mi,hz55 19 _ _ (show s54 19=(eL r70) from zL ha54 h19 me) me,hz55 20 _ _ (show s54 20=(ji (r70.length:Int)) from zL ha54 h20 mi) mi,hz55 21 _ _ (show s54 21=(ji x80) from zL ha54 h21 mi) mi⟩ ?_
       rintro s ⟨h1,h2,h3,h6,h7,h8,h10,h19,h20,h21⟩
       refine .nsq (.seq (rg (gm h8 fun h45=>gm h10 fun h46=>?_)))
       obtain ⟨q98,Eq98,h⟩:=bind_some h
       refine gv (ji q98) (vW rfl h46 Eq98) fun h47=>g2 45 47 (ji (ior .i64 x36 q98)) h45 h47 fun h48=>gm h48 fun h8=>gq (.nsq (.exit (.ebn (by decide) (.esq (.elp (.ebk (.nbk (.nlp ?_))))))))
       exact Hc1 (.of ap97) (ior .i64 x36 q98) _ ⟨h1,h2,h3,h6,h7,h8⟩ h
     refine .skip (.nbk (.nsq (rg (g1 21 (ji (w64 (x80 + 1))) h21 fun h49=>gm h49 fun h21=>gq (.nlp ?_)))))
     exact ih (w64 (x80 + 1)) _ ⟨h1,h2,h3,h6,h7,h8,h19,h20,h21⟩ h
   refine .exit (.esq (.elp (.ebk (.nbk (.nlp ?_)))))
   exact Hc1 x35 x36 _ ⟨h1,h2,h3,h6,h7,h8⟩ h
def yf (F:Nat) (x2:LI) (x3:(Cl 36 ((S1 LI)×Unit) Unit)) (x1:(S1 LI)) :Nat→(NL Int)→Int→Option LI
 | 0,_,_=>none
 | k + 1,x35,x36=>
   (yI F x1).bind fun r68=>
   bif (x36 != r68) then
    (yI F x1).bind fun r69=>
    (uU F (xp .i64 r69 x36)).bind fun r70=>
    yu F x2 x3 x1 x35 x36 r70 (yf F x2 x3 x1 k) F 0
   else
    some x35.list
theorem zde (H:zfp D σ F) (x2:LI) (x3:(Cl 36 ((S1 LI)×Unit) Unit)) (x1:(S1 LI)) :∀ (k:Nat) (x35:(NL Int)) (x36:Int) (s:Nat→V),zk [(1,eL x2),(2,.fn 36 [.agg [eL x3.fs.1.a]] []),(3,.ref (.bx 3) 0 [] (.agg [eL x1.a])),(6,nI),(7,oI 7 [] x35),(8,ji x36)] s→yf F x2 x3 x1 k x35 x36=some r→Run D σ (ze7 r) (.run U6 [.lp U6,.bk 0,.sq J4]) s:=by
 intro k
 induction k with
 | zero=>intro x35 x36 s _ h;exact nm h
 | succ k ih=>
   intro x35 x36 s hs h
   rw [yf] at h
   obtain ⟨h1,h2,h3,h6,h7,h8⟩:=hs
   refine .seq (.seq (rg (gm h8 fun h11=>g1 3 (.agg [eL x1.a]) h3 fun h12=>?_)))
   obtain ⟨r68,Er68,h⟩:=bind_some h
   refine zy (m:=0) (al:=false) (r:=Enc.enc (r68:Int)) [Enc.enc (x1:(S1 LI))] (zc (v:=.agg [eL x1.a]) h12 rfl (Enc.erase_enc (x1:(S1 LI))) zp) (H.c66 _ _ Er68) H.g66 rfl rfl rfl rfl (g2 11 13 (jb (x36 != r68)) h11 (rf (ji r68)) fun h14=>gq (.nsq (zg h14 h (fun h=>?_) (fun h=>?_))))
   · refine .skip (.nsq (.block (.seq (rg (g1 3 (.agg [eL x1.a]) h3 fun h15=>?_)))))
     obtain ⟨r69,Er69,h⟩:=bind_some h
     refine zy (m:=0) (al:=false) (r:=Enc.enc (r69:Int)) [Enc.enc (x1:(S1 LI))] (zc (v:=.agg [eL x1.a]) h15 rfl (Enc.erase_enc (x1:(S1 LI))) zp) (H.c66 _ _ Er69) H.g66 rfl rfl rfl rfl (gm h8 fun h17=>g2 16 17 (ji (xp .i64 r69 x36)) (rf (ji r69)) h17 fun h18=>?_)
     obtain ⟨r70,Er70,h⟩:=bind_some h
     refine zy (m:=0) (al:=false) (r:=eL r70) [Enc.enc (xp .i64 r69 x36:Int)] (zc (v:=ji (xp .i64 r69 x36)) h18 rfl rfl zp) (H.c67 _ _ Er70) H.g67 rfl rfl rfl rfl (gl r70 rfl fun h20=>g0 (ji 0) fun h21=>gq (.nsq (.block (.loop ?_))))
     exact zdr H x2 x3 x1 x35 x36 r70 (yf F x2 x3 x1 k) ih F 0 _ ⟨h1,h2,h3,h6,h7,h8,rfl,h20,h21⟩ h
   refine .exit (.esq (.elp (.ebk (.nsq (.seq (rg (gv (oI 7 [] x35) (Wm h7 ZL) fun h50=>gv (oI 7 [] x35) (Wm h50 ZL) fun h6=>yL (yr (r:=7) (x:=6) (v:=_) h6 ZL (fun s56 hz56=>?_)))))))))
   refine ez [(6,oI 6 [] x35)] (hz56 6 _ _ h6 (zl (r:=7) (p:=[]) rfl rfl)) ?_
   rintro s h6
   refine .nsq (.ret ?_)
   obtain rfl:=oi h
   exact rrA (zf h6) (ud (wl (o:=x35)) (wx rfl))
def yJ (F:Nat) (x1:(S1 LI)) (x2:LI) (x3:(Cl 36 ((S1 LI)×Unit) Unit)):Option LI:=
 yf F x2 x3 x1 F .nil 0
theorem zpw (H:zfp D σ F) (x1:(S1 LI)) (x2:LI) (x3:(Cl 36 ((S1 LI)×Unit) Unit)) (s:Nat→V) (hs:zk [(0,.agg [eL x1.a]),(1,eL x2),(2,.fn 36 [.agg [eL x3.fs.1.a]] [])] s) (h:yJ F x1 x2 x3=some r):Run D σ (ze7 r) (.run zl6 []) s:=by
 unfold yJ at h
 obtain ⟨h0,h1,h2⟩:=hs
 refine .seq (zo (zT ?_))
 refine ez [(0,_),(1,_),(2,_),(3,_)] ⟨za h0 rfl (zF (ze me zm)),za h1 rfl me,za h2 rfl (Wf (ze (zF (ze me zm)) zm) zm),zb rfl⟩ ?_
 rintro s ⟨h0,h1,h2,h3⟩
 refine xo (.agg [eL x1.a]) (zx h0 rfl) h3 rfl (g0 nI fun h6=>gq (.nsq (.seq (rg (g0 nI fun h7=>gq (.nsq (.seq (.seq (rg (g0 (ji 0) fun h8=>gq (.nsq (.block (.loop ?_)))))))))))))
 exact zde H x2 x3 x1 F .nil 0 _ ⟨h1,h2,rfl,h6,h7,h8⟩ h
end
def zhS (F:Nat):Ent:=ent 37 (fun (x:((S1 LI)×LI×(Cl 36 ((S1 LI)×Unit) Unit)×Unit))=>yJ F x.1 x.2.1 x.2.2.1) (fun (r:LI)=>(eL r)) 0 false [(2,36)]
abbrev zlW (D:List V→Option V) (F:Nat):Prop:=∀ (x0:(S1 LI)) (x1:LI) (x2:(Cl 36 ((S1 LI)×Unit) Unit)) r,yJ F x0 x1 x2=some r→D [Enc.enc x0,Enc.enc x1,Arg.arg x2]=some (eL r)
theorem zun {F:Nat}:zlW (zhS F).den F:=fun x0 x1 x2 _ h=>zK (x0,x1,x2,()) h
theorem zud (hF:zr Try.prog D σ) (H:zfp D σ F):(zhS F).Ok Try.prog:=okZ (f:=37) Try.func37 fun ⟨x0,x1,x2,_⟩ y hy=>cR hF Try.func37 c37s1 (zpw H x0 x1 x2 _ ⟨rfl,rfl,rfl⟩ hy)
def zrX:AC:=(.cond (.t 9) (.seq (rr [jv 2 (.mov (.k (.sl .nl .s 0 []))),jv 3 (.mov (jn 0)),jv 4 (.mov kf)]) .ret) .skip)
def zt2:AC:=(.seq (rr [jv 16 (.load (.ag [.p]) (.t 5)),jm 17 6,jv 18 (.load (.ag [.p]) (.t 5)),jv 19 (.fn 36 [.t 18] []),jx 20 (.call (jf 37) [.t 16,.t 17,.t 19]),jm 21 6,jv 22 (.idx (.t 21) (jn 0) 1),jl 23 22,jm 2 20,jm 3 23,jv 4 (.mov kt)]) .ret)
def zui:AC:=(.seq (rr [jv 12 (.load (.ag [.p]) (.t 5)),jv 13 (.load (.ag [.p]) (.t 5)),jv 14 (.fn 36 [.t 13] []),jx 15 (.call (jf 35) [.t 12,jn 0,.t 14]),jm 6 15]) zt2)
def zrJ:AC:=(.seq (.reg [.clr [5]] [jv 10 (.load (.ag [.s,.p]) (.t 1)),jx 11 (.call (jf 28) [.t 10]),jx 5 (.alloc (.agg [.sl .nl .s 0 []])),jz (.store (.ag [.p]) (.t 5) (.t 11))] []) zui)
def zrC:AC:=(.seq (.seq (rr [jv 7 (.load (.ag [.s,.p]) (.t 1)),jx 8 (.call (jf 23) [.t 7]),jv 9 (.un .not (.t 8))]) zrX) zrJ)
def A14:AC:=(.seq (.reg [.clr [1]] [jx 1 (.box (.t 0)),jv 2 (.mov (.k (.sl .nl .s 0 []))),jv 3 (.mov (jn 0)),jv 4 (.mov kf)] []) zrC)
def zvq:List An:=[⟨0,[.clr [1]],[],[],[]⟩,⟨3,[.clr [5]],[],[],[]⟩]
theorem c14:cq Try.prog Try.f14 zvq=some A14:=by kernel_rfl
structure H14 (D:Den) (σ:Sig) (F:Nat):Prop where
 c23:C23 (D 23) F
 g23:σ 23=some (0,false)
 c28:C28 (D 28) F
 g28:σ 28=some (0,false)
 c35s1:zlL (D 35) F
 g35s1:σ 35=some (0,false)
 c37s1:zlW (D 37) F
 g37s1:σ 37=some (0,false)
abbrev R14 (r:(S3 LI Int Bool)):(Nat→V)→Prop:=RR Try.prog [.tmp 2,.tmp 3,.tmp 4] 0 true (.tup [eL r.a,Enc.enc (r.b:Int),Enc.enc (r.c:Bool)])
section
variable {r:(S3 LI Int Bool)}
def xu (F:Nat) (x1:GR):Option (S3 LI Int Bool):=
 (xF F x1).bind fun r2=>
 bif (!r2) then
  some (S3.mk [] 0 false)
 else
  (vw F x1).bind fun r3=>
  (ye F r3 0 (Cl.mk (r3,()) ():(Cl 36 ((S1 LI)×Unit) Unit))).bind fun r4=>
  (yJ F r3 r4 (Cl.mk (r3,()) ():(Cl 36 ((S1 LI)×Unit) Unit))).bind fun r5=>
  (idx r4 0).bind fun v6=>
  some (S3.mk r5 v6 true)
theorem t14 (H:H14 D σ F) (x1:GR) (s:Nat→V) (hs:zk [(0,gV x1)] s) (h:xu F x1=some r):Run D σ (R14 r) (.run A14 []) s:=by
 unfold xu at h
 have h0:=hs
 refine .seq (zo (zT ?_))
 refine ez [(0,_),(1,_)] ⟨za h0 rfl mIE,zb rfl⟩ ?_
 rintro s ⟨h0,h1⟩
 refine xo (gV x1) (zx h0 rfl) h1 rfl (g0 nI fun h2=>g0 (ji 0) fun h3=>g0 (jb false) fun h4=>gq (.nsq (.seq (.seq (rg (g1 1 (gV x1) (rf (bG 1 x1)) fun h7=>?_))))))
 obtain ⟨r2,Er2,h⟩:=bind_some h
 refine zy (m:=0) (al:=false) (r:=Enc.enc (r2:Bool)) [Enc.enc (x1:GR)] (zc (v:=gV x1) h7 rfl (Enc.erase_enc (x1:GR)) zp) (H.c23 _ _ Er2) H.g23 rfl rfl rfl rfl (g1 8 (jb (!r2)) (rf (jb r2)) fun h9=>gq (.nsq (zg h9 h (fun h=>?_) (fun h=>?_))))
 · refine .seq (rg (g0 nI fun h2=>g0 (ji 0) fun h3=>g0 (jb false) fun h4=>gq (.nsq (.ret ?_))))
   obtain rfl:=oi h
   exact rrC (zf h2) (zf h3) (zf h4) (xS (wH (zP (wl (o:=(.nil:NL Int)) (t:=.nl)) (zP (yz (x:=(0:Int))) (zP (yz (x:=(false:Bool))) xA)))))
 refine .skip (.nsq (.seq (zo (zT ?_))))
 refine ez [(1,_),(2,_),(3,_),(4,_),(5,_)] ⟨za rfl rfl (zi rfl mIE),za h2 rfl rfl,za h3 rfl mi,za h4 rfl mb,zb rfl⟩ ?_
 rintro s ⟨h1,h2,h3,h4,h5⟩
 refine g1 1 (gV x1) h1 fun h10=>?_
 obtain ⟨r3,Er3,h⟩:=bind_some h
 refine zy (m:=0) (al:=false) (r:=Enc.enc (r3:(S1 LI))) [Enc.enc (x1:GR)] (zc (v:=gV x1) h10 rfl (Enc.erase_enc (x1:GR)) zp) (H.c28 _ _ Er3) H.g28 rfl rfl rfl rfl (wk h5 (yd (.agg [eL r3.a]) (zx rfl rfl) (zx rfl rfl) (ww (by first | rfl | simp [V.toks,V.tokss,Enc.toks_enc,ya])) (gz [(2,nI),(3,ji 0),(4,jb false),(5,.ref (.bx 5) 0 [] (.agg [eL r3.a]))] ⟨zd h2 rfl,zd h3 rfl,zd h4 rfl,zd rfl rfl⟩ ?_)))
 rintro s ⟨h2,h3,h4,h5⟩
 refine .nsq (.seq (rg (g1 5 (.agg [eL r3.a]) h5 fun h12=>g1 5 (.agg [eL r3.a]) h5 fun h13=>g1 13 (.fn 36 [.agg [eL r3.a]] []) h13 fun h14=>?_)))
 obtain ⟨r4,Er4,h⟩:=bind_some h
 refine zy (m:=0) (al:=false) (r:=eL r4) [Enc.enc (r3:(S1 LI)),Enc.enc (0:Int),Arg.arg ((Cl.mk (r3,()) ():(Cl 36 ((S1 LI)×Unit) Unit)):(Cl 36 ((S1 LI)×Unit) Unit))] (zc (v:=.agg [eL r3.a]) h12 rfl (Enc.erase_enc (r3:(S1 LI))) (zc (v:=ji 0) rfl rfl rfl (zc (v:=.fn 36 [.agg [eL r3.a]] []) h14 rfl (MR (um (Enc.erase_enc (r3:(S1 LI))) wz) wz) zp))) (H.c35s1 _ _ _ _ Er4) H.g35s1 rfl rfl rfl rfl (gm (rf (eL r4)) fun h6=>gq (.nsq (.seq (rg (g1 5 (.agg [eL r3.a]) h5 fun h16=>gm h6 fun h17=>g1 5 (.agg [eL r3.a]) h5 fun h18=>g1 18 (.fn 36 [.agg [eL r3.a]] []) h18 fun h19=>?_)))))
 obtain ⟨r5,Er5,h⟩:=bind_some h
 refine zy (m:=0) (al:=false) (r:=eL r5) [Enc.enc (r3:(S1 LI)),eL r4,Arg.arg ((Cl.mk (r3,()) ():(Cl 36 ((S1 LI)×Unit) Unit)):(Cl 36 ((S1 LI)×Unit) Unit))] (zc (v:=.agg [eL r3.a]) h16 rfl (Enc.erase_enc (r3:(S1 LI))) (zc (v:=eL r4) h17 rfl (Enc.erase_enc (r4:LI)) (zc (v:=.fn 36 [.agg [eL r3.a]] []) h19 rfl (MR (um (Enc.erase_enc (r3:(S1 LI))) wz) wz) zp))) (H.c37s1 _ _ _ _ Er5) H.g37s1 rfl rfl rfl rfl (gm h6 fun h21=>?_)
 obtain ⟨v6,Ev6,h⟩:=bind_some h
 refine gv (.ref .sh 0 [] (ji v6)) (yq (t:=.sh) (lo:=0) (xs:=r4) h21 rfl Ev6 rfl rfl) fun h22=>g1 22 (ji v6) h22 fun h23=>gm (rf (eL r5)) fun h2=>gm h23 fun h3=>g0 (jb true) fun h4=>gq (.nsq (.ret ?_))
 obtain rfl:=oi h
 exact rrC (zf h2) (zf h3) (zf h4) (xS (wH (zP (yz (x:=(r5:LI))) (zP (yz (x:=(v6:Int))) (zP (yz (x:=(true:Bool))) xA)))))
end
def e14 (F:Nat):Ent:=ent 14 (fun (x:(GR×Unit))=>xu F x.1) (fun (r:(S3 LI Int Bool))=>(.tup [eL r.a,Enc.enc (r.b:Int),Enc.enc (r.c:Bool)])) 0 true []
abbrev C14 (D:List V→Option V) (F:Nat):Prop:=∀ (x0:GR) r,xu F x0=some r→D [Enc.enc x0]=some (.tup [eL r.a,Enc.enc (r.b:Int),Enc.enc (r.c:Bool)])
theorem p14 {F:Nat}:C14 (e14 F).den F:=fun x0 _ h=>zK (x0,()) h
theorem o14 (hF:zr Try.prog D σ) (H:H14 D σ F):(e14 F).Ok Try.prog:=okZ (f:=14) Try.func14 fun ⟨x0,_⟩ y hy=>cR hF Try.func14 c14 (t14 H x0 _ rfl hy)
def zqT:AC:=(.cond (.t 10) .skip (.exit 0))
def zt4:AC:=(.cond (.t 17) (.reg [.clr [20,21]] [jm 18 5,jm 19 6,jx 20 (.lit i0 1 [(0,0,.t 19)]),jx 21 (.app .s (.t 18) (.t 20)),jm 5 21] [.home 21 5]) .skip)
def zlS:AC:=(rr [jm 11 6,jv 12 (.bin .add (.t 11) (jn 1)),jm 6 12])
def ztL:AC:=(.seq (.block 1 (.seq (rr [jm 13 1,jm 14 6,jv 15 (.bin .shr (.t 13) (.t 14)),jv 16 (.bin .and (.t 15) (jn 1)),jv 17 (.bin .eql (.t 16) (jn 1))]) zt4)) zlS)
def N8:AC:=(.seq (.seq (rr [jm 8 6,jm 9 0,jv 10 (.bin .lss (.t 8) (.t 9))]) zqT) ztL)
def zff:AC:=(.seq (.reg [] [jm 22 5,jm 4 22] [.home 5 4]) .ret)
def zqt:AC:=(.block 0 (.loop N8))
def zsA:AC:=(.seq (.seq (rr [jv 6 (.mov (jn 0))]) zqt) zff)
def zus:AC:=(.seq (.reg [.clr [7]] [jx 7 (.lit i0 0 []),jm 5 7] [.home 7 5]) zsA)
def A40:AC:=(.seq (rr [jv 4 (.mov (.k (.sl .nl .s 0 [])))]) zus)
def zwl:List An:=[⟨1,[.clr [7]],[],[],[.home 7 5]⟩,⟨6,[.clr [20,21]],[],[],[.home 21 5]⟩,⟨7,[],[],[],[.home 5 4]⟩]
theorem c40:cq Try.prog Try.f40 zwl=some A40:=by kernel_rfl
structure H40 (D:Den) (σ:Sig) (F:Nat):Prop where
 mk ::
abbrev R40 (r:LI):(Nat→V)→Prop:=RR Try.prog [.tmp 4] 0 false (eL r)
section
variable {r:LI}
def Y3 (F:Nat) (x1:Int) (x2:Int) (x8:Int) (c1:LI→Int→Option LI) (x15:LI):Option LI:=
 c1 x15 (w64 (x8 + 1))
theorem zce (H:H40 D σ F) (x1:Int) (x2:Int) (x8:Int) (c1:LI→Int→Option LI) (Hc1:∀ (x7:LI) (x8:Int) (s:Nat→V),zk [(0,ji x1),(1,ji x2),(4,nI),(5,oI 5 [] (.of x7)),(6,ji x8)] s→c1 x7 x8=some r→Run D σ (R40 r) (.run N8 [.lp N8,.bk 0,.sq zff]) s) (x15:LI) (s:Nat→V) (hs:zk [(0,ji x1),(1,ji x2),(4,nI),(5,oI 5 [] (.of x15)),(6,ji x8)] s) (h:Y3 F x1 x2 x8 c1 x15=some r):Run D σ (R40 r) (.nrm [.bk 1,.sq zlS,.lp N8,.bk 0,.sq zff]) s:=by
 unfold Y3 at h
 obtain ⟨h0,h1,h4,h5,h6⟩:=hs
 refine .nbk (.nsq (rg (gm h6 fun h11=>g1 11 (ji (w64 (x8 + 1))) h11 fun h12=>gm h12 fun h6=>gq (.nlp ?_))))
 exact Hc1 x15 (w64 (x8 + 1)) _ ⟨h0,h1,h4,h5,h6⟩ h
def w6 (F:Nat) (x1:Int) (x2:Int) :Nat→LI→Int→Option LI
 | 0,_,_=>none
 | k + 1,x7,x8=>
   bif decide (x8 < x1) then
    (Wk .i64 x2 x8).bind fun q13=>
    bif ((yp .i64 q13 1) == 1) then
     (wJ x7 [x8]).bind fun ap16=>
     Y3 F x1 x2 x8 (w6 F x1 x2 k) ap16
    else
     Y3 F x1 x2 x8 (w6 F x1 x2 k) x7
   else
    some x7
theorem zi3 (H:H40 D σ F) (x1:Int) (x2:Int) :∀ (k:Nat) (x7:LI) (x8:Int) (s:Nat→V),zk [(0,ji x1),(1,ji x2),(4,nI),(5,oI 5 [] (.of x7)),(6,ji x8)] s→w6 F x1 x2 k x7 x8=some r→Run D σ (R40 r) (.run N8 [.lp N8,.bk 0,.sq zff]) s:=by
 intro k
 induction k with
 | zero=>intro x7 x8 s _ h;exact nm h
 | succ k ih=>
   intro x7 x8 s hs h
   rw [w6] at h
   obtain ⟨h0,h1,h4,h5,h6⟩:=hs
   refine .seq (.seq (rg (gm h6 fun h8=>gm h0 fun h9=>g2 8 9 (jb (decide (x8 < x1))) h8 h9 fun h10=>gq (.nsq (zg h10 h (fun h=>?_) (fun h=>?_))))))
   · refine .skip (.nsq (.seq (.block (.seq (rg (gm h1 fun h13=>gm h6 fun h14=>?_))))))
     obtain ⟨q13,Eq13,h⟩:=bind_some h
     refine gv (ji q13) (YA h13 h14 Eq13) fun h15=>g1 15 (ji (yp .i64 q13 1)) h15 fun h16=>g1 16 (jb ((yp .i64 q13 1) == 1)) h16 fun h17=>gq (.nsq (zg h17 h (fun h=>?_) (fun h=>?_)))
     · refine zo (zT ?_)
       refine ez [(0,_),(1,_),(4,_),(5,_),(6,_),(20,_),(21,_)] ⟨za h0 rfl mi,za h1 rfl mi,za h4 rfl rfl,za h5 rfl (zl (r:=5) (p:=[]) rfl rfl),za h6 rfl mi,zb rfl,zb rfl⟩ ?_
       rintro s ⟨h0,h1,h4,h5,h6,h20,h21⟩
       refine gm h5 fun h18=>gm h6 fun h19=>xq [(19,ji x8)] [Enc.enc (x8:Int)] h19 rfl rfl h20 ?_
       obtain ⟨ap16,Eap16,h⟩:=bind_some h
       refine Xd (q:=5) (p:=[]) (o:=.of (x7:LI)) (ys:=([x8]:LI)) (t2:=.at 20 []) (lo2:=0) h18 rfl rfl h21 (ZB (o:=.of (x7:LI)) Eap16 trivial) (fun s19 ha19=>gm (rf (oI 21 [] (.of ap16))) fun h5=>yL (yr (r:=21) (x:=5) (v:=_) h5 rfl (fun s20 hz20=>?_)))
       refine ez [(0,ji x1),(1,ji x2),(4,nI),(5,oI 5 [] (.of ap16)),(6,ji x8)] ⟨hz20 0 _ _ (show s19 0=(ji x1) from zL ha19 h0 mi) mi,hz20 1 _ _ (show s19 1=(ji x2) from zL ha19 h1 mi) mi,hz20 4 _ nI (show s19 4=nI from zL ha19 h4 rfl) rfl,hz20 5 _ _ h5 (zl (r:=21) (p:=[]) rfl rfl),hz20 6 _ _ (show s19 6=(ji x8) from zL ha19 h6 mi) mi⟩ ?_
       rintro s ⟨h0,h1,h4,h5,h6⟩
       exact zce H x1 x2 x8 (w6 F x1 x2 k) ih ap16 _ ⟨h0,h1,h4,h5,h6⟩ h
     refine .skip ?_
     exact zce H x1 x2 x8 (w6 F x1 x2 k) ih x7 _ ⟨h0,h1,h4,h5,h6⟩ h
   refine .exit (.esq (.elp (.ebk (.nsq (.seq (rg (gm h5 fun h22=>gm h22 fun h4=>yL (yr (r:=5) (x:=4) (v:=_) h4 rfl (fun s21 hz21=>?_)))))))))
   refine ez [(4,oI 4 [] (.of x7))] (hz21 4 _ _ h4 (zl (r:=5) (p:=[]) rfl rfl)) ?_
   rintro s h4
   refine .nsq (.ret ?_)
   obtain rfl:=oi h
   exact rrA (zf h4) (ud (wl (o:=.of x7)) (wx rfl))
def ZH (F:Nat) (x1:Int) (x2:Int):Option LI:=
 w6 F x1 x2 F [] 0
theorem t40 (H:H40 D σ F) (x1:Int) (x2:Int) (s:Nat→V) (hs:zk [(0,ji x1),(1,ji x2)] s) (h:ZH F x1 x2=some r):Run D σ (R40 r) (.run A40 []) s:=by
 unfold ZH at h
 obtain ⟨h0,h1⟩:=hs
 refine .seq (rg (g0 nI fun h4=>gq (.nsq (.seq (zo (zT ?_))))))
 refine ez [(0,_),(1,_),(4,_),(7,_)] ⟨za h0 rfl mi,za h1 rfl mi,za h4 rfl rfl,zb rfl⟩ ?_
 rintro s ⟨h0,h1,h4,h7⟩
 refine xq [] [] trivial rfl rfl h7 (gm (rf (oI 7 [] (.of []))) fun h5=>yL (yr (r:=7) (x:=5) (v:=_) h5 rfl (fun s2 hz2=>?_)))
 refine ez [(0,ji x1),(1,ji x2),(4,nI),(5,oI 5 [] (.of []))] ⟨hz2 0 _ _ h0 mi,hz2 1 _ _ h1 mi,hz2 4 _ _ h4 rfl,hz2 5 _ _ h5 (zl (r:=7) (p:=[]) rfl rfl)⟩ ?_
 rintro s ⟨h0,h1,h4,h5⟩
 refine .nsq (.seq (.seq (rg (g0 (ji 0) fun h6=>gq (.nsq (.block (.loop ?_)))))))
 exact zi3 H x1 x2 F [] 0 _ ⟨h0,h1,h4,h5,h6⟩ h
end
def e40 (F:Nat):Ent:=ent 40 (fun (x:(Int×Int×Unit))=>ZH F x.1 x.2.1) (fun (r:LI)=>(eL r)) 0 false []
abbrev C40 (D:List V→Option V) (F:Nat):Prop:=∀ (x0:Int) (x1:Int) r,ZH F x0 x1=some r→D [Enc.enc x0,Enc.enc x1]=some (eL r)
theorem p40 {F:Nat}:C40 (e40 F).den F:=fun x0 x1 _ h=>zK (x0,x1,()) h
theorem o40 (hF:zr Try.prog D σ) (H:H40 D σ F):(e40 F).Ok Try.prog:=okZ (f:=40) Try.func40 fun ⟨x0,x1,_⟩ y hy=>cR hF Try.func40 c40 (t40 H x0 x1 _ ⟨rfl,rfl⟩ hy)
end Go.Zq
