/- Part of the proof. -/
import Derived.Test.YtgkianlpkdfhkaaGreatM05
import Derived.RangeFuncLeaves
set_option linter.unusedVariables false
set_option linter.unusedSimpArgs false
set_option linter.unusedSectionVars false
namespace Go.Ev
section
variable {P:Program}{E:Env}{F:T CFn}{K:T (List AV×AV)}{w0:World}{φ: Phi}{h:H}{w:World}{cs0:List Frame}
theorem La {b:Frame}{a:Act}{ops:Array Oper}{j:Nat}{rest:List Nat}{k:List Item}{cs:List Frame}{o:Oper}(ho:ops[j]?=some o)(hw:Region.wanted o (yielded ops a.tmps)=true)(hd: ∀c,o.op≠ .defer c):
  J3 P false ((execOp a.eval o).run P w) (b.atR a (.inRegion ops (j::rest)::k)) cs (lone (b.atR a (.inRegion ops (j::rest)::k)) cs w):=by
 refine⟨fun f args w' hx=>?_,fun l f tmps assign body w' hx=>?_⟩
 ·apply step_lone_go
  rw [stepGR_op ho hw,Oper.semAt_eq _ _ _ hd]
  simp [stepG.apply,Sem.runT_eq,hx,Frame.atR,C2]
 ·apply step_lone_go
  rw [stepGR_op ho hw,Oper.semAt_eq _ _ _ hd]
  simp [stepG.apply,Sem.runT_eq,hx,Frame.atR,C2]
theorem Ei {c:Op}{tm:T AV}{x:R}(hx:exec (Ak E c) h tm=x)(h1: ∀f args,x≠ .dfr f args)(h2:x≠ .fail): ∀cl,c≠ .defer cl:=by
 intro cl e
 subst e
 simp only [Ak]at hx
 split at hx
 ·simp only [exec]at hx
  split at hx
  ·exact h1 _ _ hx.symm
  ·exact h2 hx.symm
 ·simp only [exec]at hx;exact h2 hx.symm
theorem P2 (hE:EnvOk P E)(hT:TabOk P E F)(hK:MemOk P K){r:OR}{nt fn:Nat}{dfd:Bool}{ro:Option Nat}{b:Frame}{ops:Array Oper}{a:Act}{td:List Nat}{k:List AItem}{k':List Item}{ds:List ADef}{xs:List AFr}{cs:List Frame}
  (he:Q2 E nt ops w0 r φ a td w) (hb:BR' φ fn dfd ro b) (hd:DRs φ ds a.defers) (hk:IRs E φ nt k k') (hfs:FRs E φ xs cs):
  Goes P E w0 cs0 (R0 F K r k fn nt ds dfd ro xs) (lone (b.atR a (.inRegion ops td::k')) (cs++cs0) w):=by
 cases r with
 |fail=>exact trivial
 |fin tm h=>
  obtain⟨rfl,ht,hr⟩:=he
  exact⟨_,.one stepR_region_end,φ,_,cs,w,rfl,hb.FR ht hd hk,hfs,hr⟩
 |at_ i l tm h x=>
  obtain⟨j,rest,o,rfl,ho,hi,rfl,hdst,hdok,hw,hx,hvf,ht,hr⟩:=he
  cases x with
  |val v h'=>exact trivial
  |fail=>exact trivial
  |call f args=>
   have hnd:=Ei hx (by intro _ _ e;cases e) (by intro e;cases e)
   have hc:=N2 (P:=P) (w:=w) hr.hr ht.rho hx
   have hfr:FR E φ ⟨fn,nt,tm,.ops (i::rest.map (Bh E nt ops))::k,ds,.run,dfd,ro⟩ (b.atR a (.inRegion ops (j::rest)::k')):=by
    rw [hi];exact hb.FR ht hd (.cons (.ops ops (j::rest)) hk)
   exact G6 hE hT hK hr hfr hfs hc (La ho hw hnd)
  |next ws=>
   obtain⟨y,hy,φ',v',w',s1,s2,s3,s4,s5⟩:=bg hr.hr ht.rho hx
   have s4:=hr.to s4 s5
   have hnd:=Ei hx (by intro _ _ e;cases e) (by intro e;cases e)
   have hstep:=Gn (b:=b) (cs:=cs++cs0) (k:=k') (rest:=rest) ho hw hnd s2
   refine⟨_,List.mem_map.2 ⟨y,hy,rfl⟩,_,.one hstep,φ',_,cs,w',rfl,?_,hfs.mono s1.1,s4⟩
   have hd':DRs φ' ds (a.put o.dst v').defers:=by
    have:(a.put o.dst v').defers=a.defers:=by cases o.dst <;> rfl
    rw [this];exact hd.mono s1.1
   rw [hdst]
   exact(hb.mono s1.1).FR ((ht.mono s1.1).put' hdok s3) hd' (.cons (.ops ops rest) (hk.mono s1.1))
  |pan v=>
   obtain⟨v',s1,s2⟩:=ly (P:=P) (w:=w) hr.hr ht.rho hx
   have hnd:=Ei hx (by intro _ _ e;cases e) (by intro e;cases e)
   have hstep:Go.step P (lone (b.atR a (.inRegion ops (j::rest)::k')) (cs++cs0) w)= .next (lone ((b.atR a (.inRegion ops (j::rest)::k')).raise [{v:=v',recovered:=false}]) (cs++cs0) w):=by
    apply step_lone_go
    rw [stepGR_op ho hw,Oper.semAt_eq _ _ _ hnd]
    simp [stepG.apply,Sem.runT_eq,s1]
   refine⟨_,.one hstep,φ,_,cs,w,rfl,?_,hfs,hr⟩
   rw [Frame.raise_atR,hi]
   have:=hb.FR ht hd (.cons (.ops ops (j::rest)) hk)
   exact⟨this.fn,this.kind,this.ro,this.defers,.panicking (.cons s2 .nil),this.body,fun h=>(by cases h)⟩
  |dfr f args=>
   cases ro with
   |some l=>exact trivial
   |none=>
    obtain⟨d,c,hop,s1,s2⟩:=ll (P:=P) (w:=w) hr.hr ht.rho hx
    have hro:b.roundOf=none:=by have:=hb.ro;cases hbr:b.roundOf with|none=>rfl|some _=>rw [hbr]at this;cases this
    have hstep:Go.step P (lone (b.atR a (.inRegion ops (j::rest)::k')) (cs++cs0) w)= .next (lone (b.atR ({a with defers:=d::a.defers}.put o.dst undef) (.inRegion ops rest::k')) (cs++cs0) w):=by
     have hf:=Frame.finish_atR b {a with defers:=d::a.defers} ops j rest k' undef
     rw [ho]at hf
     simp only [Option.bind_some]at hf
     rw [←hf]
     apply step_lone_go
     rw [stepGR_op ho hw,hro,Oper.semAt_none]
     simp [stepG.apply,Sem.runT_eq,s1,Frame.atR]
    refine⟨_,.one hstep,φ,_,cs,w,rfl,?_,hfs,hr⟩
    have hd':DRs φ (.call f args::ds) ({a with defers:=d::a.defers}.put o.dst undef:Act).defers:=by
     have:({a with defers:=d::a.defers}.put o.dst undef:Act).defers=d::a.defers:=by cases o.dst <;> rfl
     rw [this];exact .cons s2 hd
    rw [hdst]
    exact hb.FR (TR.put' (a:= {a with defers:=d::a.defers}) ht hdok (.tup .nil)) hd' (.cons (.ops ops rest) hk)
  |recover=>
   cases ro with
   |some l=>exact trivial
   |none=>
    obtain⟨s1,c,hop⟩:=lz (P:=P) (w:=w) hr.hr ht.rho hx
    have hnd:=Ei hx (by intro _ _ e;cases e) (by intro e;cases e)
    have hro:b.roundOf=none:=by have:=hb.ro;cases hbr:b.roundOf with|none=>rfl|some _=>rw [hbr]at this;cases this
    have hf:=fun v=>Frame.finish_atR b a ops j rest k' v
    rw [ho]at hf
    simp only [Option.bind_some]at hf
    have hdp: ∀v,(a.put o.dst v).defers=a.defers:=by intro v;cases o.dst <;> rfl
    have stepN: ∀callers,tryRecover (b.atR a (.inRegion ops (j::rest)::k')) callers=none→
      Go.step P (lone (b.atR a (.inRegion ops (j::rest)::k')) callers w)= .next (lone (b.atR (a.put o.dst .nilIface) (.inRegion ops rest::k')) callers w):=by
     intro callers hn
     rw [←hf]
     apply step_lone_go
     rw [stepGR_op ho hw,Oper.semAt_eq _ _ _ hnd]
     have hr2:(b.atR a (.inRegion ops (j::rest)::k')).roundOf=none:=hro
     simp [stepG.apply,Sem.runT_eq,s1,hr2,hn]
    have nil: ∀(ys:List AFr) (fs:List Frame),FRs E φ ys fs→tryRecover (b.atR a (.inRegion ops (j::rest)::k')) (fs++cs0)=none→
      Goes P E w0 cs0 (.one ⟨⟨fn,nt,Ev.put tm i.dst .nili,.ops (rest.map (Bh E nt ops))::k,ds,.run,dfd,none⟩,ys,h⟩) (lone (b.atR a (.inRegion ops (j::rest)::k')) (fs++cs0) w):=by
     intro ys fs hys hn
     refine⟨_,.one (stepN _ hn),φ,_,fs,w,rfl,?_,hys,hr⟩
     rw [hdst]
     exact hb.FR (ht.put' hdok .nili) (by rw [hdp];exact hd) (.cons (.ops ops rest) hk)
    have hkind:(b.atR a (.inRegion ops (j::rest)::k')).kind=C2 dfd:=hb.kind
    cases dfd with
    |false=>
     refine nil xs cs hfs ?_
     unfold tryRecover
     rw [hkind];rfl
    |true=>
     cases hfs with
     |nil=>exact trivial
     | @cons x fr xs cs hfr hfs=>
      obtain⟨ffn,ftmps,ftodo,fdefers,fmode,fkind,fro⟩:=fr
      obtain⟨xfn,xnt,xtm,xtodo,xdefers,xmode,xdfd,xro⟩:=x
      obtain⟨h1,h2,h3,h4,h5,h6,h7⟩:=hfr
      simp only at h1 h2 h3 h4 h5 h6 h7
      cases h5 with
      |run=>exact nil _ _ (.cons ⟨h1,h2,h3,h4,.run,h6,h7⟩ hfs) (by show tryRecover _ (_::(cs++cs0))=none;unfold tryRecover;rw [hkind];rfl)
      |returning=>exact nil _ _ (.cons ⟨h1,h2,h3,h4,.returning,h6,h7⟩ hfs) (by show tryRecover _ (_::(cs++cs0))=none;unfold tryRecover;rw [hkind];rfl)
      |panicking hc=>
       cases hc with
       |nil=>exact nil _ _ (.cons ⟨h1,h2,h3,h4,.panicking .nil,h6,h7⟩ hfs) (by show tryRecover _ (_::(cs++cs0))=none;unfold tryRecover;rw [hkind];rfl)
       | @cons v v' q l l' hv hs=>
        cases q with
        |true=>exact nil _ _ (.cons ⟨h1,h2,h3,h4,.panicking (.cons hv hs),h6,fun h=>(by cases h7 h)⟩ hfs) (by show tryRecover _ (_::(cs++cs0))=none;unfold tryRecover;rw [hkind];rfl)
        |false=>
         have hstep:Go.step P (lone (b.atR a (.inRegion ops (j::rest)::k')) (⟨ffn,ftmps,ftodo,fdefers,.panicking ({v:=v',recovered:=false}::l'),fkind,fro⟩::(cs++cs0)) w)=
           .next (lone (b.atR (a.put o.dst v') (.inRegion ops rest::k')) (⟨ffn,ftmps,ftodo,fdefers,.panicking ({v:=v',recovered:=true}::l'),fkind,fro⟩::(cs++cs0)) w):=by
          have htr:tryRecover (b.atR a (.inRegion ops (j::rest)::k')) (⟨ffn,ftmps,ftodo,fdefers,.panicking ({v:=v',recovered:=false}::l'),fkind,fro⟩::(cs++cs0))=
            some (v',⟨ffn,ftmps,ftodo,fdefers,.panicking ({v:=v',recovered:=true}::l'),fkind,fro⟩::(cs++cs0)):=by
           unfold tryRecover;rw [hkind];rfl
          rw [←hf]
          apply step_lone_go
          rw [stepGR_op ho hw,Oper.semAt_eq _ _ _ hnd]
          have hr2:(b.atR a (.inRegion ops (j::rest)::k')).roundOf=none:=hro
          simp [stepG.apply,Sem.runT_eq,s1,hr2,htr]
         refine⟨_,.one hstep,φ,_,⟨ffn,ftmps,ftodo,fdefers,.panicking ({v:=v',recovered:=true}::l'),fkind,fro⟩::cs,w,rfl,?_,.cons ⟨h1,h2,h3,h4,.panicking (.cons hv hs),h6,fun h=>(by cases h7 h)⟩ hfs,hr⟩
         rw [hdst]
         exact hb.FR (ht.put' hdok hv) (by rw [hdp];exact hd) (.cons (.ops ops rest) hk)
end
section
variable {P:Program}{E:Env}{F:T CFn}{w0:World}{φ: Phi}{h:H}{w w':World}{cs0:List Frame}
variable {b c:Frame}{a:Act}{k:List Item}{rest:List Frame}{dfd:Bool}{l:Nat}{v:Value}
theorem X7 (hb:b.roundOf=some l)(hk:b.kind=C2 dfd)(hr:(Instr.endRound l none).run P w= .ok v w'):
  Go.step P (lone (b.atR a []) (c::rest) w)= .next (lone (I7 dfd v c) rest w'):=
 step_lone_go (by cases dfd <;> simp [stepG,stepG.exec,Frame.atR,hb,hk,C2,Sem.runT_eq,hr,Go.doReturn,I7,Ey] <;> rfl)
theorem X8 (hb:b.roundOf=some l)(hk:b.kind=C2 dfd)(hr:(Instr.endRound l (some .ret)).run P w= .ok v w'):
  Go.step P (lone (b.atR a (.code .ret::k)) (c::rest) w)= .next (lone (I7 dfd v c) rest w'):=
 step_lone_go (by cases dfd <;> simp [stepG,stepG.exec,Frame.atR,hb,hk,C2,Sem.runT_eq,hr,Go.doReturn,I7,Ey] <;> rfl)
theorem Um {id:Nat}(hx:Go.exitTo id k=none)(hb:b.roundOf=some l)(hk:b.kind=C2 dfd)(hr:(Instr.endRound l (some (.exit id))).run P w= .ok v w'):
  Go.step P (lone (b.atR a (.code (.exit id)::k)) (c::rest) w)= .next (lone (I7 dfd v c) rest w'):=
 step_lone_go (by cases dfd <;> simp [stepG,stepG.exec,Frame.atR,hb,hk,hx,C2,Sem.runT_eq,hr,Go.doReturn,I7,Ey] <;> rfl)
theorem Un {t:Nat}(hx:Go.gotoIn t k=none)(hb:b.roundOf=some l)(hk:b.kind=C2 dfd)(hr:(Instr.endRound l (some (.goto t))).run P w= .ok v w'):
  Go.step P (lone (b.atR a (.code (.goto t)::k)) (c::rest) w)= .next (lone (I7 dfd v c) rest w'):=
 step_lone_go (by cases dfd <;> simp [stepG,stepG.exec,Frame.atR,hb,hk,hx,C2,Sem.runT_eq,hr,Go.doReturn,I7,Ey] <;> rfl)
theorem H4 {x:Loop}(ob:Obj)(hb:w.heap[l]?=some (.loop x)):(setObj l ob).run P w= .ok () (Fd w l ob):=by simp [setObj,Sem.run,hb,Fd]
theorem Q3 {x:Loop}(hb:w.heap[l]?=some (.loop x))(j:Option Code):
  (Instr.endRound l j).run P w= .ok (.bool j.isNone) (Fd w l (.loop {x with state:=if j.isNone then .ready else .done,pending:=j})):=by
 simp only [Instr.endRound,Sem.run_bind,Eh hb,Result.andThen_ok,H4 _ hb,Sem.run_pure]
theorem HW.loopOver (hr:HW E w0 φ h w){r:Nat}{lo:Loc}{x y:ALoop}{y':Loop}(hφ: φ r=some lo)(hb:H.get h r=some (.loop x))(hl:LR E φ y y'):
  HW E w0 φ (H.set h r (.loop y)) (Fd w lo.cb (.loop y')):=hr.to (w':=Fd w lo.cb (.loop y')) (hr.hr.over hφ hb rfl (.loop hl) rfl) ⟨rfl,rfl,rfl⟩
theorem Fz (hE:EnvOk P E){jump:Option Code}{fn nt:Nat}{tm:T AV}{todo:List AItem}{ds:List ADef}{r:Nat}{xs:List AFr}{cs:List Frame}{m:Machine}
  (hr:HW E w0 φ h w) (hro:OptR φ (some r) b.roundOf) (hfs:FRs E φ xs cs)
  (hm: ∀l v w' c rest,b.roundOf=some l→(Instr.endRound l jump).run P w= .ok v w'→cs++cs0=c::rest→Go.step P m= .next (lone (I7 dfd v c) rest w')):
  Goes P E w0 cs0 (leave (jump.map (A1 E nt)) fn nt tm todo ds dfd (some r) xs h) m:=by
 simp only [leave]
 cases hg:H.get h r with
 |none=>exact trivial
 |some bl=>
  cases bl with
  |loop x=>
   obtain⟨st,pd,f,n,t,ps,as,bd,d⟩:=x
   generalize hbr:b.roundOf=br at hro hm
   cases hro with
   | @some _ lo hφ=>
    obtain⟨x',g1,g2⟩:=hr.loop_at hφ hg
    have hrun:=fun j=>Q3 (P:=P) g1 j
    cases jump with
    |none=>
     simp only [Option.map_none]
     have hr':=hr.loopOver (y:=⟨.ready,none,f,n,t,ps,as,bd,d⟩) (y':= {x' with state:= .ready,pending:=none}) hφ hg
      ⟨rfl,rfl,g2.fn,g2.tmps,g2.params,g2.plt,g2.assign,g2.body,g2.defers⟩
     exact N8 hE (v':= .bool true) hr' hfs (.bool true) fun c rest e=>hm _ _ _ c rest rfl (hrun none) e
    |some j=>
     simp only [Option.map_some]
     cases hb:Nat.beq n nt with
     |false=>exact trivial
     |true=>
     have hn:n=nt:=Aj hb
     subst hn
     have hr':=hr.loopOver (y:=⟨.done,some (A1 E n j),f,n,t,ps,as,bd,d⟩) (y':= {x' with state:= .done,pending:=some j}) hφ hg
      ⟨rfl,rfl,g2.fn,g2.tmps,g2.params,g2.plt,g2.assign,g2.body,g2.defers⟩
     exact N8 hE (v':= .bool false) hr' hfs (.bool false) fun c rest e=>hm _ _ _ c rest rfl (hrun (some j)) e
  |_=>exact trivial
end
section
variable {P:Program}{E:Env}{F:T CFn}{K:T (List AV×AV)}{w0:World}{φ: Phi}{h:H}{w:World}{cs0:List Frame}
variable {b:Frame}{a:Act}{fn nt:Nat}{dfd:Bool}{ro:Option Nat}{tm:T AV}{ds:List ADef}{k:List AItem}{k':List Item}{xs:List AFr}{cs:List Frame}
theorem Sg {c:Code}:Go.step P (lone (b.atR a (.code (.scope c)::k')) cs w)= .next (lone (b.atR a (.code c:: .inScope c::k')) cs w):=
 step_lone_go (by simp [stepG,stepG.exec,Frame.atR])
theorem O5 {c:Code}:Go.step P (lone (b.atR a (.inScope c::k')) cs w)= .next (lone (b.atR a k') cs w):=
 step_lone_go (by simp [stepG,stepG.exec,Frame.atR])
theorem Q4 {o:Option Nat}(h:OptR φ Option.none o):o=Option.none:=by cases h;rfl
theorem Dc {todo:List AItem}{todo':List Item}{m:Machine}(hr:HW E w0 φ h w)(hb:BR' φ fn dfd ro b)(ht:TR φ nt tm a.tmps)(hd:DRs φ ds a.defers)(hi:IRs E φ nt todo todo')(hfs:FRs E φ xs cs)
  (hm:Go.step P m= .next (lone (b.atR a todo') (cs++cs0) w)):Goes P E w0 cs0 (.one ⟨⟨fn,nt,tm,todo,ds,.run,dfd,ro⟩,xs,h⟩) m:=
 ⟨_,.one hm,φ,_,cs,w,rfl,hb.FR ht hd hi,hfs,hr⟩
theorem bz (hE:EnvOk P E)(hT:TabOk P E F)(hK:MemOk P K)(hr:HW E w0 φ h w)(hb:BR' φ fn dfd ro b)(ht:TR φ nt tm a.tmps)(hd:DRs φ ds a.defers)(hk:IRs E φ nt k k')(hfs:FRs E φ xs cs)(c:Code)
  (hnd: ∀id ops,c≠ .region id ops true) (hrf: ∀f ps x y,c≠ .rangeFunc f ps x y):
  Goes P E w0 cs0 (Bz F K (A1 E nt c) k fn nt tm ds dfd ro xs h) (lone (b.atR a (.code c::k')) (cs++cs0) w):=by
 cases c with
 |skip=>exact Dc hr hb ht hd hk hfs stepR_skip
 |label l=>exact Dc hr hb ht hd hk hfs stepR_label
 |seq x y=>exact Dc hr hb ht hd (.cons (.code x) (.cons (.code y) hk)) hfs stepR_seq
 |block id x=>exact Dc hr hb ht hd (.cons (.code x) (.cons (.inBlock id) hk)) hfs stepR_block
 |loop x=>exact Dc hr hb ht hd (.cons (.code x) (.cons (.inLoop x) hk)) hfs stepR_loop
 |scope x=>exact Dc hr hb ht hd (.cons (.code x) (.cons (.inScope x) hk)) hfs Sg
 |refuse s=>exact trivial
 |cond x y z=>
  simp only [A1,Bz]
  split
  ·rename_i hc
   have:=VR.bool_inv (hc ▸ ht.rho x)
   exact Dc hr hb ht hd (.cons (.code y) hk) hfs (stepR_cond (t:=true) this)
  ·rename_i hc
   have:=VR.bool_inv (hc ▸ ht.rho x)
   exact Dc hr hb ht hd (.cons (.code z) hk) hfs (stepR_cond (t:=false) this)
  ·exact trivial
 |region id ops d=>
  cases d with
  |true=>exact absurd rfl (hnd id ops)
  |false=>
   have hl:ops.toList.map (Jt E nt ops)=(List.range ops.size).map (Bh E nt ops):=by
    apply List.ext_getElem?
    intro i
    simp only [List.getElem?_map,Array.getElem?_toList]
    by_cases hi:i<ops.size
    ·rw [List.getElem?_range hi,Array.getElem?_eq_getElem hi];simp [Bh,hi]
    ·rw [Array.getElem?_eq_none (by omega),List.getElem?_eq_none (by simpa using hi)];rfl
   simp only [A1,D3,Bz,hl]
   refine .steps (.one stepR_region) ?_
   obtain⟨φ',a',td',w',g1,g2,g3,g4⟩:=M4 (P:=P) (b:=b) (k:=k') (cs:=cs++cs0) (ops:=ops) hE (List.range ops.size) tm h φ a w ht hr
   by_cases hf:C4 ((List.range ops.size).map (Bh E nt ops)) tm h= .fail
   ·rw [hf];exact trivial
   ·exact .steps (g3 hf) (P2 hE hT hK g4 (hb.mono g1) (by rw [g2];exact hd.mono g1) (hk.mono g1) (hfs.mono g1))
 |rangeFunc f ps x y=>exact absurd rfl (hrf f ps x y)
 |ret=>
  simp only [A1,Bz]
  cases ro with
  |none=>
   simp only [leave]
   have hro:=Q4 hb.ro
   refine⟨_,.one (stepR_ret hro),φ,_,cs,w,rfl,?_,hfs,hr⟩
   have:=hb.FR ht hd (.cons (.code .ret) hk)
   exact⟨this.fn,this.kind,this.ro,this.defers,.returning,this.body,fun h=>(by cases h)⟩
  |some r=>
   exact Fz hE (jump:=some .ret) hr hb.ro hfs fun l v w' c rest e1 e2 e3=>by rw [e3];exact X8 e1 hb.kind e2
 |exit id=>
  simp only [A1,Bz]
  obtain⟨x1,x2⟩:=bq (id:=id) hk
  split
  ·rename_i r hx
   obtain⟨r',q1,q2⟩:=x2 _ hx
   exact Dc hr hb ht hd q2 hfs (stepR_exit q1)
  ·rename_i hx
   cases ro with
   |none=>exact trivial
   |some r=>exact Fz hE (jump:=some (.exit id)) hr hb.ro hfs fun l v w' c rest e1 e2 e3=>by rw [e3];exact Um (x1 hx) e1 hb.kind e2
 |goto l=>
  simp only [A1,Bz]
  obtain⟨x1,x2⟩:=bt (l:=l) hk
  split
  ·rename_i r hx
   obtain⟨r',q1,q2⟩:=x2 _ hx
   exact Dc hr hb ht hd q2 hfs (stepR_goto q1)
  ·rename_i hx
   cases ro with
   |none=>exact trivial
   |some r=>exact Fz hE (jump:=some (.goto l)) hr hb.ro hfs fun l v w' c rest e1 e2 e3=>by rw [e3];exact Un (x1 hx) e1 hb.kind e2
end
section
variable {P:Program}{E:Env}{F:T CFn}{K:T (List AV×AV)}{w0:World}{φ: Phi}{h:H}{w:World}{cs0:List Frame}
variable {b:Frame}{a:Act}{fn nt:Nat}{dfd:Bool}{ro:Option Nat}{tm:T AV}{ds:List ADef}{k:List AItem}{k':List Item}{xs:List AFr}{cs:List Frame}
theorem Oa {l:Nat}{x:Loop}(hb:w.heap[l]?=some (.loop x))(hs:x.state= .ready):(Instr.beginRound l).run P w= .ok () (Fd w l (.loop {x with state:= .busy})):=by
 simp only [Instr.beginRound,Sem.run_bind,Eh hb,Result.andThen_ok,H4 _ hb,hs,Sem.run_pure]
theorem Mg {l:Nat}{x:Loop}(hb:w.heap[l]?=some (.loop x))(hs:(x.state == .busy)=false):(Instr.endLoop l).run P w= .ok x.pending (Fd w l (.loop {x with state:= .exhausted})):=by
 simp only [Instr.endLoop,Sem.run_bind,Eh hb,Result.andThen_ok,hs,Bool.false_eq_true,if_false,H4 _ hb,Sem.run_pure]
theorem b9 (hE:EnvOk P E)(hT:TabOk P E F)(hK:MemOk P K)(hr:HW E w0 φ h w)(hb:BR' φ fn dfd ro b)(ht:TR φ nt tm a.tmps)(hd:DRs φ ds a.defers)(hk:IRs E φ nt k k')(hfs:FRs E φ xs cs){i:AItem}{i':Item}(hi:IR E φ nt i i')
  (hnd: ∀id ops,i'≠ .code (.region id ops true)) (hrf: ∀f ps x y,i'≠ .code (.rangeFunc f ps x y)):
  Goes P E w0 cs0 (Be F K i k fn nt tm ds dfd ro xs h) (lone (b.atR a (i'::k')) (cs++cs0) w):=by
 cases hi with
 |code c=>exact bz hE hT hK hr hb ht hd hk hfs c (fun id ops e=>hnd id ops (by rw [e])) (fun f ps x y e=>hrf f ps x y (by rw [e]))
 |inBlock id=>exact Dc hr hb ht hd hk hfs stepR_inBlock
 |inScope c=>exact Dc hr hb ht hd hk hfs O5
 |inLoop c=>exact Dc hr hb ht hd (.cons (.code c) (.cons (.inLoop c) hk)) hfs stepR_inLoop
 |ops ops td=>
  simp only [Be]
  obtain⟨φ',a',td',w',g1,g2,g3,g4⟩:=M4 (P:=P) (b:=b) (k:=k') (cs:=cs++cs0) (ops:=ops) hE td tm h φ a w ht hr
  by_cases hf:C4 (td.map (Bh E nt ops)) tm h= .fail
  ·rw [hf];exact trivial
  ·exact .steps (g3 hf) (P2 hE hT hK g4 (hb.mono g1) (by rw [g2];exact hd.mono g1) (hk.mono g1) (hfs.mono g1))
 |inRF _=>exact trivial
 |beginRound=>
  simp only [Be]
  cases ro with
  |none=>exact trivial
  |some r=>
   simp only
   cases hg:H.get h r with
   |none=>exact trivial
   |some bl=>
    cases bl with
    |loop x=>
     obtain⟨st,pd,f,n,t,ps,as,bd,d⟩:=x
     cases st with
     |ready=>
      have hro:=hb.ro
      generalize hbr:b.roundOf=br at hro
      cases hro with
      | @some _ lo hφ=>
       obtain⟨x',g1,g2⟩:=hr.loop_at hφ hg
       have hrun:=Oa (P:=P) g1 g2.state
       have hr':=hr.loopOver (y:=⟨.busy,pd,f,n,t,ps,as,bd,d⟩) (y':= {x' with state:= .busy}) hφ hg
        ⟨rfl,g2.pending,g2.fn,g2.tmps,g2.params,g2.plt,g2.assign,g2.body,g2.defers⟩
       exact⟨_,.one (stepR_beginRound hbr hrun),φ,_,cs,_,rfl,hb.FR ht hd hk,hfs,hr'⟩
     |_=>exact trivial
    |_=>exact trivial
 |endRF hφ=>
  rename_i r lo
  simp only [Be]
  cases hg:H.get h r with
  |none=>exact trivial
  |some bl=>
   cases bl with
   |loop x=>
    obtain⟨st,pd,f,n,t,ps,as,bd,d⟩:=x
    obtain⟨x',g1,g2⟩:=hr.loop_at hφ hg
    have hr':=hr.loopOver (y:=⟨.exhausted,pd,f,n,t,ps,as,bd,d⟩) (y':= {x' with state:= .exhausted}) hφ hg
     ⟨rfl,g2.pending,g2.fn,g2.tmps,g2.params,g2.plt,g2.assign,g2.body,g2.defers⟩
    have hpd:pd=x'.pending.map (A1 E n):=g2.pending
    have hst:x'.state=lsR st:=g2.state
    have keyN:(x'.state == .busy)=false→pd=none→Goes P E w0 cs0 (.one ⟨⟨fn,nt,tm,k,ds,.run,dfd,ro⟩,xs,H.set h r (.loop ⟨.exhausted,pd,f,n,t,ps,as,bd,d⟩)⟩) (lone (b.atR a (.endRangeFunc lo.cb::k')) (cs++cs0) w):=by
     intro hs hp
     have hstep:=stepR_endRangeFunc (b:=b) (a:=a) (k:=k') (cs:=cs++cs0) (Mg (P:=P) g1 hs)
     cases hpx:x'.pending with
     |none=>
      rw [hpx]at hstep hr'
      exact⟨_,.one hstep,φ,_,cs,_,rfl,hb.FR ht hd hk,hfs,hr'⟩
     |some j=>rw [hpx,hp]at hpd;cases hpd
    have keyS:(x'.state == .busy)=false→ ∀j,pd=some j→n=nt→Goes P E w0 cs0 (.one ⟨⟨fn,nt,tm,.code j::k,ds,.run,dfd,ro⟩,xs,H.set h r (.loop ⟨.exhausted,pd,f,n,t,ps,as,bd,d⟩)⟩) (lone (b.atR a (.endRangeFunc lo.cb::k')) (cs++cs0) w):=by
     intro hs j hp hn
     have hstep:=stepR_endRangeFunc (b:=b) (a:=a) (k:=k') (cs:=cs++cs0) (Mg (P:=P) g1 hs)
     cases hpx:x'.pending with
     |none=>rw [hpx,hp]at hpd;cases hpd
     |some c=>
      rw [hpx]at hstep hr'
      rw [hpx,hp]at hpd
      simp only [Option.map_some,Option.some.injEq]at hpd
      subst hn
      rw [hpd]
      exact⟨_,.one hstep,φ,_,cs,_,rfl,hb.FR ht hd (.cons (.code c) hk),hfs,hr'⟩
    have pick: ∀q,(x'.state == .busy)=false→pd=q→Goes P E w0 cs0 (match q with
      |some j=>(match Nat.beq n nt with
       |true=> .one ⟨⟨fn,nt,tm,.code j::k,ds,.run,dfd,ro⟩,xs,H.set h r (.loop ⟨.exhausted,pd,f,n,t,ps,as,bd,d⟩)⟩
       |false=> .fail)
      |none=> .one ⟨⟨fn,nt,tm,k,ds,.run,dfd,ro⟩,xs,H.set h r (.loop ⟨.exhausted,pd,f,n,t,ps,as,bd,d⟩)⟩) (lone (b.atR a (.endRangeFunc lo.cb::k')) (cs++cs0) w):=by
     intro q hs hq
     cases q with
     |none=>exact keyN hs hq
     |some j=>
      cases hn:Nat.beq n nt with
      |false=>simp only [hn];exact trivial
      |true=>simp only [hn];exact keyS hs j hq (Aj hn)
    have key:=fun hs=>pick pd hs rfl
    cases st with
    |busy=>exact trivial
    |ready=>exact key (by rw [hst];rfl)
    |done=>exact key (by rw [hst];rfl)
    |exhausted=>exact key (by rw [hst];rfl)
   |_=>exact trivial
end
section
variable {P:Program}{E:Env}{F:T CFn}{w0:World}{φ: Phi}{h:H}{w:World}{cs0:List Frame}
variable {b:Frame}{a:Act}{fn nt:Nat}{dfd:Bool}{ro:Option Nat}{tm:T AV}{ds:List ADef}{k:List AItem}{k':List Item}{xs:List AFr}{cs:List Frame}
theorem O6 (hw:HW E w0 φ h w)(hb:BR' φ fn dfd ro b)(ht:TR φ nt tm a.tmps){ps:Array Tmp}{x y:Code}(hps: ∀p∈ps.toList,p<nt){l:Nat}{mark:List ADef}{h':H}
  (he:Ev.enterLoop fn nt tm ps.toList (A1 E nt x) (A1 E nt y) ro h=some (l,mark,h')):
  ∃φ' lo mark' w',Phi.le φ φ'∧(Instr.enterLoop b.fn a.tmps ps x y b.roundOf).run P w= .ok (lo.cb,mark') w'∧φ' l=some lo∧DRs φ' mark mark'∧HW E w0 φ' h' w':=by
 have hro:=hb.ro
 have hr:=hw.hr
 cases ro with
 |none=>
  have hrn:=Q4 hro
  simp only [Ev.enterLoop,Option.some.injEq,Prod.mk.injEq]at he
  obtain⟨rfl,rfl,rfl⟩:=he
  have hle1:Phi.le φ (φ.upd h.n ⟨w.heap.size,0,0⟩):=Phi.le_upd _ hr.fresh
  have hr1:HR E w0.heap (φ.upd h.n ⟨w.heap.size,0,0⟩) (H.new h (.dfr (some []))) (w.alloc (.deferred (some []))).heap:=hr.new rfl (.dfrS .nil) rfl
  have hfr2:=hr1.fresh
  have hle2:Phi.le (φ.upd h.n ⟨w.heap.size,0,0⟩) ((φ.upd h.n ⟨w.heap.size,0,0⟩).upd (H.new h (.dfr (some []))).n ⟨w.heap.size+1,0,0⟩):=Phi.le_upd _ hfr2
  refine⟨_,⟨w.heap.size+1,0,0⟩,[{target:= .collected w.heap.size,args:= #[]}],(w.alloc (.deferred (some []))).alloc (.loop {state:= .ready,pending:=none,fn:=b.fn,tmps:=a.tmps,params:=ps,assign:=x,body:=y,defers:=w.heap.size}),hle1.trans hle2,?_,?_,?_,?_⟩
  ·simp [Instr.enterLoop,hrn]
  ·exact Phi.upd_same _ _ _
  ·exact .cons (.mark (hle2 _ _ (Phi.upd_same φ h.n ⟨w.heap.size,0,0⟩))) .nil
  ·refine hw.to ?_ ⟨rfl,rfl,rfl⟩
   refine hr1.new (l:=⟨w.heap.size+1,0,0⟩) (by simp) (.loop ⟨rfl,rfl,hb.fn,ht.mono (hle1.trans hle2),rfl,hps,rfl,rfl,⟨w.heap.size,0,0⟩,?_,rfl⟩) rfl
   exact hle2 _ _ (Phi.upd_same φ h.n ⟨w.heap.size,0,0⟩)
 |some r=>
  simp only [Ev.enterLoop]at he
  cases hg:H.get h r with
  |none=>rw [hg]at he;cases he
  |some bl=>
   rw [hg]at he
   cases bl with
   |loop z=>
    simp only [Option.some.injEq,Prod.mk.injEq]at he
    obtain⟨rfl,rfl,rfl⟩:=he
    generalize hbr:b.roundOf=br at hro
    cases hro with
    | @some _ lo hφ=>
     obtain⟨z',g1,g2⟩:=hw.loop_at hφ hg
     obtain⟨d,d1,d2⟩:=g2.defers
     have hle:Phi.le φ (φ.upd h.n ⟨w.heap.size,0,0⟩):=Phi.le_upd _ hr.fresh
     refine⟨_,⟨w.heap.size,0,0⟩,[],w.alloc (.loop {state:= .ready,pending:=none,fn:=b.fn,tmps:=a.tmps,params:=ps,assign:=x,body:=y,defers:=z'.defers}),hle,?_,Phi.upd_same _ _ _,.nil,?_⟩
     ·simp [Instr.enterLoop,Eh g1]
     ·refine hw.to ?_ ⟨rfl,rfl,rfl⟩
      exact hr.new (l:=⟨w.heap.size,0,0⟩) rfl (.loop ⟨rfl,rfl,hb.fn,ht.mono hle,rfl,hps,rfl,rfl,d,hle _ _ d1,d2⟩) rfl
   |_=>cases he
end
section
variable {P:Program}{E:Env}{F:T CFn}{K:T (List AV×AV)}{w0:World}{φ: Phi}{h:H}{w:World}{cs0:List Frame}
variable {b:Frame}{a:Act}{fn nt:Nat}{dfd:Bool}{ro:Option Nat}{tm:T AV}{ds:List ADef}{k:List AItem}{k':List Item}{xs:List AFr}{cs:List Frame}
theorem Sj {f:AFn}{first cap as:List AV}{xv:Value}{as':Array Value}(hv:VR φ (.fn f first cap) xv)(has:VRs φ as as'.toList):
  Q1 P E φ f (List.append first (List.append as cap)) ((do let d←Deferred.ofValue xv as';invoke d.target d.args:Sem Next).run P w) w:=by
 cases f with
 |func g=>
  obtain⟨a',c',e1,h1,h2⟩:=hv.fnF_inv
  refine⟨a'++as'++c',?_,fun fn q1 q2 q3=>?_⟩
  ·simp only [Array.toList_append,List.append_assoc]
   exact h1.append (has.append h2)
  ·simp only [e1,Deferred.ofValue,Sem.run_bind,Sem.run_pure,Result.andThen_ok,invoke]
   exact G1 q1 q2 q3 _
 |yield r=>
  cases hv with
  | @fnY _ l hφ=>
   refine⟨l,#[]++as',hφ,?_,?_⟩
   ·simp only [Array.toList_append]
    show VRs φ ([]++(as++ [])) _
    simpa using has
   ·simp only [Deferred.ofValue,Sem.run_bind,Sem.run_pure,Result.andThen_ok,invoke]
theorem mg {g:Operand}{ps:Array Tmp}{x y:Code}{l:Nat}{mark:List Deferred}{w1:World}
  (he:(Instr.enterLoop b.fn a.tmps ps x y b.roundOf).run P w= .ok (l,mark) w1):
  J3 P false ((do let d←Deferred.ofValue (a.eval g) #[.func (.yield l) #[] #[]];invoke d.target d.args:Sem Next).run P w1)
   (b.atR {a with defers:=mark++a.defers} (.inRangeFunc l::k')) cs (lone (b.atR a (.code (.rangeFunc g ps x y)::k')) cs w):=by
 have hev:=Frame.eval_atR b {a with defers:=mark++a.defers} (.inRangeFunc l::k')
 simp only [Frame.atR]at hev
 have hre:resolve ({tmps:=a.tmps,defers:=mark++a.defers}:Act).eval {callee:= .value g,args:= #[.const (.func (.yield l) #[] #[])],argTypes:= #[]} 0=Deferred.ofValue (a.eval g) #[.func (.yield l) #[] #[]]:=by
  simp only [resolve]
  have:({tmps:=a.tmps,defers:=mark++a.defers}:Act).eval g=a.eval g:=by cases g <;> rfl
  rw [this];simp [Act.eval]
 refine⟨fun f args w' hx=>?_,fun l' f tmps assign body w' hx=>?_⟩
 ·apply step_lone_go
  rw [Sem.run_bind]at hx
  simp [stepG,stepG.exec,Frame.atR,Sem.runT_eq,he,GStep.bare_after,stepG.apply,hev,Sem.run_bind,hre,hx,C2]
 ·apply step_lone_go
  rw [Sem.run_bind]at hx
  simp [stepG,stepG.exec,Frame.atR,Sem.runT_eq,he,GStep.bare_after,stepG.apply,hev,Sem.run_bind,hre,hx,C2]
theorem s8 (hE:EnvOk P E)(hT:TabOk P E F)(hK:MemOk P K)(hr:HW E w0 φ h w)(hb:BR' φ fn dfd ro b)(ht:TR φ nt tm a.tmps)(hd:DRs φ ds a.defers)(hk:IRs E φ nt k k')(hfs:FRs E φ xs cs)(g:Operand)(ps:Array Tmp)(x y:Code):
  Goes P E w0 cs0 (Bz F K (A1 E nt (.rangeFunc g ps x y)) k fn nt tm ds dfd ro xs h) (lone (b.atR a (.code (.rangeFunc g ps x y)::k')) (cs++cs0) w):=by
 simp only [A1]
 cases hps:ps.toList.all (fun p=>Nat.ble (Nat.succ p) nt)with
 |false=>exact trivial
 |true=>
  simp only [Bz]
  have hps': ∀p∈ps.toList,p<nt:=fun p hp=>Ag (List.all_eq_true.1 hps p hp)
  cases he:Ev.enterLoop fn nt tm ps.toList (A1 E nt x) (A1 E nt y) ro h with
  |none=>exact trivial
  |some q=>
   obtain⟨l,mark,h'⟩:=q
   obtain⟨φ',lo,mark',w',e1,e2,e3,e4,e5⟩:=O6 hr hb ht hps' he
   simp only
   split
   ·rename_i f first cap hv
    have hv:=hv ▸ (ht.rho g).mono e1
    have hc:=Sj (P:=P) (E:=E) (w:=w') (as:= [.fn (.yield l) [] []]) (as':= #[.func (.yield lo.cb) #[] #[]]) hv (.cons (.fnY e3) .nil)
    have hfr:FR E φ' ⟨fn,nt,tm,.inRF l::k,List.append mark ds,.run,dfd,ro⟩ (b.atR {a with defers:=mark'++a.defers} (.inRangeFunc lo.cb::k')):=
     (hb.mono e1).FR (a:= {a with defers:=mark'++a.defers}) (ht.mono e1) (e4.append (hd.mono e1)) (.cons (.inRF e3) (hk.mono e1))
    exact G6 hE hT hK e5 hfr (hfs.mono e1) hc (mg e2)
   ·exact trivial
end
section
variable {P:Program}{E:Env}{F:T CFn}{w0:World}{φ: Phi}{h:H}{w:World}{cs0:List Frame}
theorem P3 (hE:EnvOk P E)(hr:HW E w0 φ h w){nt:Nat}{tm:T AV}{tmps:Array Value}(ht:TR φ nt tm tmps): ∀(rs:List ResultVar) (l:List AV),results tm h (rs.map (Mw E))=some l→
  ∃vs:List Value,VRs φ l vs∧(rs.mapM (fun| .tmp t=>pure (tmps.getD t undef)| .cell a t=>do loadVar t (←asAddr (tmps.getD a undef)):ResultVar→Sem Value)).run P w= .ok vs w
 | [],l,hx=>by simp only [List.map_nil,results,Option.some.injEq]at hx;subst hx;exact⟨[],.nil,rfl⟩
 |r::rs,l,hx=>by
  rw [List.map_cons]at hx
  simp only [results]at hx
  split at hx
  ·cases hx
  ·rename_i l1 h1
   obtain⟨vs,v1,v2⟩:=P3 hE hr ht rs l1 h1
   have key: ∀(u:AV) (v':Value),l=u::l1→VR φ u v'→((match r with| .tmp t=>pure (tmps.getD t undef)| .cell a t=>do loadVar t (←asAddr (tmps.getD a undef))):Sem Value).run P w= .ok v' w→
     ∃vs:List Value,VRs φ l vs∧((r::rs).mapM (fun| .tmp t=>pure (tmps.getD t undef)| .cell a t=>do loadVar t (←asAddr (tmps.getD a undef)):ResultVar→Sem Value)).run P w= .ok vs w:=by
    intro u v' e hv hrun
    refine⟨v'::vs,by rw [e];exact .cons hv v1,?_⟩
    rw [List.mapM_cons,Sem.run_bind]
    cases r with
    |tmp t=>simp only at hrun ⊢;rw [hrun];simp only [Result.andThen_ok,Sem.run_bind,v2,Sem.run_pure]
    |cell a t=>simp only at hrun ⊢;rw [hrun];simp only [Result.andThen_ok,Sem.run_bind,v2,Sem.run_pure]
   cases r with
   |tmp t=>
    simp only [Mw,Option.some.injEq]at hx
    exact key _ _ hx.symm (by
     have:=ht.rho (a:=⟨tmps,[]⟩) (.tmp t)
     exact this) rfl
   |cell a t=>
    simp only [Mw]at hx
    cases hi:Ev.inf E t with
    |none=>rw [hi]at hx;simp at hx
    |some i=>
     rw [hi]at hx
     simp only at hx
     cases hag:Ht E t with
     |none=>rw [hag]at hx;simp at hx
     |some q=>
      rw [hag]at hx
      have hrho:=ht.rho (a:=⟨tmps,[]⟩) (.tmp a)
      have hev:ev tm (.t a)=ev tm (opd (.tmp a)):=rfl
      cases q with
      |true=>
       simp only at hx
       split at hx
       ·rename_i b o hb
        obtain⟨lo,hφ,ea⟩:=VR.ptr_inv (hb ▸ hrho)
        split at hx
        ·rename_i xs hc
         simp only [Option.some.injEq]at hx
         obtain⟨us,u1,u2,u3⟩:=hr.hr.cellsAt hφ hc (lo.base+o) (fun _=>rfl)
         have hl:=D6 P (w:=w) u3
         rw [u1]at hl
         refine key _ (.agg us.toArray) hx.symm (.agg (by simpa using u2)) ?_
         have ea':tmps.getD a undef= .pointer (some ⟨lo.cb,lo.base+o,none⟩):=ea
         simp only [ea',asAddr,Sem.run_bind,Sem.run_pure,Result.andThen_ok,loadVar,Ds hE hag,if_true,A3 hE hi,hl]
        ·cases hx
       ·cases hx
      |false=>
       simp only at hx
       split at hx
       ·rename_i b o hb
        obtain⟨lo,hφ,ea⟩:=VR.ptr_inv (hb ▸ hrho)
        split at hx
        ·rename_i rb n c hg
         split at hx
         ·rename_i v hle hgc
          simp only [Option.some.injEq]at hx
          obtain⟨cs,e,_,c1,c2,c3,c4⟩:=hr.hr.cellsOf_blk hφ hg
          obtain⟨v',g1,g2⟩:=c4 o v (Ag hle) hgc
          refine key _ v' hx.symm g2 ?_
          have ea':tmps.getD a undef= .pointer (some ⟨lo.cb,lo.base+o,none⟩):=ea
          have hcell:w.cell? ⟨lo.cb,lo.base+o,none⟩=some v':=by rw [Ir c1];exact g1
          simp [ea',asAddr,loadVar,Ds hE hag,hcell]
         ·cases hx
        ·cases hx
       ·cases hx
end
section
variable {P:Program}{E:Env}{F:T CFn}{w0:World}{φ: Phi}{h:H}{w:World}{cs0:List Frame}
theorem HW.dfr_at (hr:HW E w0 φ h w){r:Nat}{l:Loc}{x:List ADef}(hφ: φ r=some l)(hb:H.get h r=some (.dfr (some x))): ∃x',w.heap[l.cb]?=some (.deferred (some x'))∧DRs φ x x':=by
 obtain⟨o,h1,h2⟩:=hr.hr.blk _ _ _ hφ hb
 cases h2 with
 |dfrS h=>exact⟨_,h1,h⟩
theorem ce {x:AFr}{fr:Frame}{l:List (AV×Bool)}{l':List PanicEntry}(hf:FR E φ x fr)(hd:isD x.todo=false)(hc:CR φ l l'):FR E φ {x with mode:=Ev.raise x.mode l} (fr.raise l'):=by
 obtain⟨fn,tmps,todo,defers,mode,kind,ro⟩:=fr
 obtain⟨xfn,xnt,xtm,xtodo,xdefers,xmode,xdfd,xro⟩:=x
 obtain⟨h1,h2,h3,h4,h5,h6,h7⟩:=hf
 simp only at h1 h2 h3 h4 h5 h6 h7 hd
 have hno:isD xtodo=true→ ∀{p:Prop},p:=fun h=>by rw [hd]at h;cases h
 cases h5 with
 |run=>exact⟨h1,h2,h3,h4,.panicking hc,h6,fun h=>hno h⟩
 |returning=>exact⟨h1,h2,h3,h4,.panicking hc,h6,fun h=>hno h⟩
 |panicking hc'=>exact⟨h1,h2,h3,h4,.panicking (hc.append hc'),h6,fun h=>hno h⟩
theorem cf {l:List AV}{vs:List Value}(h:VRs φ l vs):VR φ (single l) (if h:vs.toArray.size=1 then vs.toArray[0]else .tuple vs.toArray):=by
 cases h with
 |nil=>exact .tup .nil
 |cons hv hs=>
  cases hs with
  |nil=>exact hv
  |cons hv' hs=>simp [single];exact .tup (.cons hv (.cons hv' hs))
theorem Sk (hE:EnvOk P E)(hr:HW E w0 φ h w){nt:Nat}{tm:T AV}{tmps:Array Value}(ht:TR φ nt tm tmps){fn:Func}{c:Code}{l:List AV}(hx:results tm h (V5 E fn c).results=some l):
  ∃v,(Go.results fn tmps).run P w= .ok v w∧VR φ (single l) v:=by
 obtain⟨vs,v1,v2⟩:=P3 hE hr ht fn.results.toList l hx
 refine⟨_,?_,cf v1⟩
 unfold Go.results
 rw [Sem.run_bind,Array.mapM_eq_mapM_toList,Sem.run_map]
 erw [v2]
 rfl
theorem cg {r:Nat}{ds:List Deferred}(hb:w.heap[r]?=some (.deferred (some ds))):(Instr.takeDeferred r).run P w= .ok ds (Fd w r (.deferred none)):=by
 simp [Instr.takeDeferred,getObj,setObj,Sem.run,hb,Fd]
end
section
variable {P:Program}{E:Env}{F:T CFn}{K:T (List AV×AV)}{w0:World}{φ: Phi}{h:H}{w:World}{cs0:List Frame}
variable {b:Frame}{a:Act}{fn nt:Nat}{dfd:Bool}{ro:Option Nat}{tm:T AV}{ds:List ADef}{k:List AItem}{k':List Item}{xs:List AFr}{cs:List Frame}
theorem Wh (hE:EnvOk P E)(hr:HW E w0 φ h w)(hb:BR' φ fn dfd ro b)(ht:TR φ nt tm a.tmps)(hd:DRs φ ds a.defers)(hk:IRs E φ nt k k')(hfs:FRs E φ xs cs)(Rg:Reg){td:List Nat}(hreg:Er (Aw E nt Rg)=true)
  (hext:Ext Rg.ops.size Rg.bits [] td):
  Goes P E w0 cs0 (Dr ((Ep (Df (Aw E nt Rg)) (B8 (Aw E nt Rg)) 0).map Gf) ((Qw (Df (Aw E nt Rg)) (B8 (Aw E nt Rg))).map Gf)
   (A6 (Df (Aw E nt Rg)) (B8 (Aw E nt Rg)) (B8 (Aw E nt Rg)) 0) k fn nt tm ds dfd ro xs h) (lone (b.atR a (.inRegion Rg.ops td::k')) (cs++cs0) {w with drawn:=w.drawn+1}):=by
 have hs:DS E nt Rg 0 [] td:=
  ⟨hreg,hext,fun j hj=>(by cases hj),fun m e hm=>absurd hm (Nat.not_lt_zero m),fun m e _ _ hd=>(by cases hd)⟩
 refine N6 (k:=0) (w:= {w with drawn:=w.drawn+1}) hE (hr.to (w':= {w with drawn:=w.drawn+1}) hr.hr ⟨rfl,rfl,rfl⟩) hb hd hk hfs hs ht.size (fun t v hg _=>ht.val t v hg) (fun j _ _ _ hd=>(by cases hd)) (fun j _ _ hlt=>absurd hlt (Nat.not_lt_zero _)) rfl ?_ rfl
 intro j hj hc hc2 hor
 rcases hor with h1|⟨h1,h2,h3⟩
 ·exact absurd h1 (Nat.not_lt_zero _)
 ·refine List.mem_map.2 ⟨_,?_,rfl⟩
  unfold Qw
  rw [List.mem_filter]
  refine⟨mem_ne.2 ⟨j,(hext.apart j hj).2,rfl,hc⟩,?_⟩
  have e1:cnt (B8 (Aw E nt Rg)) (rw' E nt Rg j)=0:=h1
  have e2:Ky (rw' E nt Rg j)=1:=h2
  have e3:L3 (Ep (Df (Aw E nt Rg)) (B8 (Aw E nt Rg)) 0)=true:=h3
  rw [e1,e2,e3];rfl
theorem P4: ∀{l:List Out} {r:Out},Ry l=r→r= .fail∨ ∃cs,r= .many cs∧ ∀o∈l,∃c∈cs,o= .one c
 | [],r,h=> .inr ⟨[],h.symm,fun o ho=>by cases ho⟩
 |o::l,r,h=>by
  simp only [Ry]at h
  cases o with
  |one c=>
   simp only at h
   rcases P4 (l:=l) rfl with h1|⟨cs,h1,h2⟩
   ·rw [h1]at h;exact .inl h.symm
   ·rw [h1]at h
    refine .inr ⟨c::cs,h.symm,fun o ho=>?_⟩
    rcases List.mem_cons.1 ho with e|ho
    ·exact⟨c,List.mem_cons_self ..,e⟩
    ·obtain⟨c',q1,q2⟩:=h2 o ho
     exact⟨c',List.mem_cons_of_mem _ q1,q2⟩
  |_=>exact .inl h.symm
theorem X9 {l:List Out}{o:Out}{m:Machine}(ho:o∈l)(h:Goes P E w0 cs0 o m):Goes P E w0 cs0 (Ry l) m:=by
 rcases P4 (l:=l) rfl with h1|⟨cs,h1,h2⟩
 ·rw [h1];exact trivial
 ·rw [h1]
  obtain⟨c,q1,rfl⟩:=h2 o ho
  exact⟨c,q1,h⟩
theorem co (hE:EnvOk P E)(hr:HW E w0 φ h w)(hb:BR' φ fn dfd ro b)(ht:TR φ nt tm a.tmps)(hd:DRs φ ds a.defers)(hk:IRs E φ nt k k')(hfs:FRs E φ xs cs)(id:Nat)(ops:Array Oper):
  Goes P E w0 cs0 (Bz F K (A1 E nt (.region id ops true)) k fn nt tm ds dfd ro xs h) (lone (b.atR a (.code (.region id ops true)::k')) (cs++cs0) w):=by
 simp only [A1,D3]
 cases hbef:Nh ops with
 |false=>exact trivial
 |true=>
  simp only
  have hstep: ∀{o:Out},Goes P E w0 cs0 o (lone (b.atR a (.inRegion ops (Region.schedule true ops (w.tape w.drawn (.order b.fn id)))::k')) (cs++cs0) {w with drawn:=w.drawn+1})→Goes P E w0 cs0 o (lone (b.atR a (.code (.region id ops true)::k')) (cs++cs0) w):=by
   intro o g
   refine .steps (.one stepR_region_draw) ?_
   rw [hE.mixed];exact g
  have hext:=X4 hbef (w.tape w.drawn (.order b.fn id))
  cases hreg:Er (Aw E nt (Kz ops))with
  |true=>exact hstep (Wh hE hr hb ht hd hk hfs (Kz ops) hreg hext)
  |false=>
   simp only
   cases hall:(Ee E nt ops 8 (Kz ops).bits).all fun b=>Er (Aw E nt ⟨ops,b⟩)with
   |false=>exact trivial
   |true=>
    obtain⟨v,q1,q2⟩:=G4 (E:=E) (nt:=nt) 8 _ hext
    rw [List.all_eq_true]at hall
    simp only [Bz,List.map_map]
    refine hstep (X9 (List.mem_map.2 ⟨v,q1,rfl⟩) ?_)
    exact Wh hE hr hb ht hd hk hfs ⟨ops,v⟩ (hall v q1) q2
theorem mh (hE:EnvOk P E)(hT:TabOk P E F)(hK:MemOk P K)(hr:HW E w0 φ h w)(hb:BR' φ fn dfd ro b)(hd:DRs φ ds a.defers)(hk:IRs E φ nt k k')(hfs:FRs E φ xs cs)
  {Rg:Reg} {q:Nat} {D td:List Nat} {e:Row} {p:Ph} {l:List Ph} (hs:DS E nt Rg q D (e.j::td)) (he:(es' E nt Rg)[q]?=some e)
  (hp:A6 (ne' E nt Rg) (es' E nt Rg) ((es' E nt Rg).drop q) q=p::l) (ht:TRd E φ nt Rg q (e.j::td) tm a.tmps):
  Goes P E w0 cs0 (Be F K (.drawn p l) k fn nt tm ds dfd ro xs h) (lone (b.atR a (.inRegion Rg.ops (e.j::td)::k')) (cs++cs0) w):=by
 simp only [Be]
 have hlt:q<(es' E nt Rg).length:=(List.getElem?_eq_some_iff.1 he).1
 have hdrop:(es' E nt Rg).drop q=e::(es' E nt Rg).drop (q+1):=by
  rw [List.drop_eq_getElem_cons hlt]
  have:=(List.getElem?_eq_some_iff.1 he).2
  rw [this]
 have hpe:p.eff=⟨Bh E nt Rg.ops e.j,Mv Rg.ops e.j⟩:=by
  have hp':=hp
  rw [hdrop]at hp'
  simp only [A6,List.cons.injEq]at hp'
  rw [←hp'.1]
  have:=(G3 he).2.1
  show e.d=_
  rw [this];rfl
 have hT':TR φ nt (only tm (nm' Rg e.j)) a.tmps:=We ht.size (hs.names ht)
 have hnm:p.eff.names=nm' Rg e.j:=by rw [hpe];rfl
 have hci:p.eff.ci=Bh E nt Rg.ops e.j:=by rw [hpe]
 rw [hnm,hci]
 rcases H3 E nt Rg.ops e.j with hbad|⟨o,ho,h1,h2,h3,h4⟩
 ·rw [hbad];exact trivial
 ·rw [h1,h4]
  split
  ·exact trivial
  ·rename_i hw
   have hwc:=Du hT' h3 hw
   have hstep:=stepR_op_skip (P:=P) (b:=b) (a:=a) (k:=k') (cs:=cs++cs0) (w:=w) (ops:=Rg.ops) (i:=e.j) (rest:=td) (by rw [ho];simpa using hwc)
   rw [ho]at hstep
   simp only [Option.bind_some]at hstep
   exact .steps (.one hstep) (N7 hE hr hb hd hk hfs hs he hp ht h1 h2 (.tup .nil))
  ·rename_i hw
   have hwc:=Du hT' h3 hw
   split
   ·rename_i v h' hx
    obtain⟨φ1,v',w1,⟨s1,s1'⟩,s2,s3,s4,s5⟩:=Mz hr.hr hT'.rho hE hx
    have s4:=hr.to s4 s5
    have hnd: ∀c,o.op≠ .defer c:=Ei hx (by intro _ _ e;cases e) (by intro e;cases e)
    have hstep:=Gn (b:=b) (cs:=cs++cs0) (k:=k') (rest:=td) ho hwc hnd s2
    exact .steps (.one hstep) (N7 hE s4 (hb.mono s1) (hd.mono s1) (hk.mono s1) (hfs.mono s1) hs he hp (ht.mono s1) h1 h2 s3)
   ·rename_i f args hx
    have hnd: ∀c,o.op≠ .defer c:=Ei hx (by intro _ _ e;cases e) (by intro e;cases e)
    have hc:=N2 (P:=P) (w:=w) hr.hr hT'.rho hx
    have hfr:FR E φ ⟨fn,nt,tm,.drawn p l::k,ds,.run,dfd,ro⟩ (b.atR a (.inRegion Rg.ops (e.j::td)::k')):=
     ⟨hb.fn,hb.kind,hb.ro,hd,.run,.drawn hs he hp ht hk,fun _=>rfl⟩
    exact G6 hE hT hK hr hfr hfs hc (La ho hwc hnd)
   ·exact trivial
theorem Uo (c:Frame):({c with mode:=Go.settle c.mode}:Frame)=Ey c:=by
 obtain⟨fn,tmps,todo,defers,mode,kind,ro⟩:=c
 unfold Ey Go.settle
 cases mode with
 |run=>rfl
 |returning=>rfl
 |panicking l=>
  cases l with
  |nil=>rfl
  |cons e l=>
   obtain⟨v,rec,g⟩:=e
   cases rec with
   |false=>rfl
   |true=>simp only;cases l.dropWhile (!·.goexit) <;> rfl
theorem cq {fr:Frame}{d:Deferred}{ds':List Deferred}{f:Nat}{c:Array Value}(hm:fr.mode≠ .run)(hd:fr.defers=d::ds')(ht:d.target= .fn (.func f) c):
  J3 P true ((invoke d.target d.args).run P w) {fr with defers:=ds'} cs (lone fr cs w):=by
 obtain⟨t,as⟩:=d
 simp only at ht
 subst ht
 refine⟨fun f args w' hx=>?_,fun l f tmps assign body w' hx=>?_⟩
 ·simp only at hx
  refine step_lone_go ?_
  cases hmode:fr.mode with
  |run=>exact absurd hmode hm
  |returning=>simp [stepG,Go.unwind,callDeferred,hmode,hd,hx,C2]
  |panicking chain=>simp [stepG,Go.unwind,callDeferred,hmode,hd,hx,C2]
 ·simp only at hx
  refine step_lone_go ?_
  cases hmode:fr.mode with
  |run=>exact absurd hmode hm
  |returning=>simp [stepG,Go.unwind,callDeferred,hmode,hd,hx,C2]
  |panicking chain=>simp [stepG,Go.unwind,callDeferred,hmode,hd,hx,C2]
theorem P5 (t:Nat): ∀(l:List DI) (tm:T AV) (v:AV),T.get (Jv l tm) t=some v→T.get tm t=some v∧ ∀i∈l,i.ci.dst≠some t
 | [],tm,v,h=>⟨h,fun i hi=>by cases hi⟩
 |a::l,tm,v,h=>by
  simp only [Jv]at h
  obtain⟨h1,h2⟩:=P5 t l _ v h
  cases hd:a.ci.dst with
  |none=>
   rw [hd]at h1
   refine⟨h1,fun i hi=>?_⟩
   rcases List.mem_cons.1 hi with e|hi
   ·rw [e,hd];intro e;cases e
   ·exact h2 i hi
  |some d=>
   rw [hd]at h1
   simp only [T.get_set]at h1
   by_cases e:t=d
   ·rw [if_pos e]at h1;cases h1
   ·rw [if_neg e]at h1
    refine⟨h1,fun i hi=>?_⟩
    rcases List.mem_cons.1 hi with e'|hi
    ·rw [e',hd];intro e'';cases e'';exact e rfl
    ·exact h2 i hi
theorem Up {yfn ynt:Nat}{ytm:T AV}{p:Ph}{lp:List Ph}{r:List AItem}{yd:List ADef}{ym:AMode}{ydfd:Bool}{yro:Option Nat}{fr:Frame}{l:List (AV×Bool)}{l':List PanicEntry}
  (hf:FR E φ ⟨yfn,ynt,ytm,.drawn p lp::r,yd,ym,ydfd,yro⟩ fr) (hc:CR φ l l'):FR E φ ⟨yfn,ynt,Jv p.chk ytm,[.gone],yd,Ev.raise ym l,ydfd,yro⟩ (fr.raise l'):=by
 obtain⟨fn,tmps,todo,defers,mode,kind,ro⟩:=fr
 obtain⟨h1,h2,h3,h4,h5,h6,h7⟩:=hf
 simp only at h1 h2 h3 h4 h5 h6 h7
 have hr:=h7 rfl
 subst hr
 cases h5
 refine⟨h1,h2,h3,h4,.panicking hc,?_,fun h=>by cases h⟩
 cases h6 with
 |plain _ hi=>have:=hi.noD;cases this
 | @drawn Rg q D td e _ _ _ _ _ hs he hp ht hi=>
  refine .gone ⟨ht.size,fun t v hv=>?_⟩
  obtain⟨g1,g2⟩:=P5 t _ _ _ hv
  refine ht.val t v g1 fun j hj hpj hd=>?_
  obtain⟨e1,e2,e3,e4⟩:=G3 he
  obtain⟨s1,s2,s3,s4⟩:=hs.head
  have hlt:q<(es' E ynt Rg).length:=(List.getElem?_eq_some_iff.1 he).1
  have hdrop:(es' E ynt Rg).drop q=e::(es' E ynt Rg).drop (q+1):=by
   rw [List.drop_eq_getElem_cons hlt]
   have:=(List.getElem?_eq_some_iff.1 he).2
   rw [this]
  rw [hdrop]at hp
  simp only [A6,List.cons.injEq]at hp
  have hpc:p.chk=(V4 (ne' E ynt Rg) (es' E ynt Rg) e q).map Gf:=by rw [←hp.1]
  rcases List.mem_cons.1 hj with e'|hj
  ·rw [e']at hpj;exact hpj.1 e3
  ·obtain⟨q1,q2⟩:=s4.apart j hj
   have hbit:tb e.bits j=false:=by
    cases hb:tb e.bits j with
    |false=>rfl
    |true=>rw [e4]at hb;exact absurd (List.mem_cons_of_mem _ (s3 j hb)) q1
   have h2:cl' E ynt Rg j≠2:=by
    intro h2
    have:=Pv hs.reg q2 h2 hpj.2 he
    rw [←e4,hbit]at this;cases this
   have:=Wg (k:=q) (e:=e) q2 hpj.1 h2 (.inl ⟨hpj.2,hbit⟩)
   exact g2 _ (hpc ▸ this) hd
theorem Ob (hE:EnvOk P E)(hT:TabOk P E F)(hK:MemOk P K){x:AFr}{fr:Frame}(hr:HW E w0 φ h w)(hf:FR E φ x fr)(hfs:FRs E φ xs cs)(hm:x.mode≠ .run):
  Goes P E w0 cs0 (Ev.unwind F K x.fn x.nt x.tm x.todo x.mode x.dfd x.ro xs h x.defers) (lone fr (cs++cs0) w):=by
 obtain⟨fn,tmps,todo,defers,mode,kind,ro⟩:=fr
 obtain⟨xfn,xnt,xtm,xtodo,xdefers,xmode,xdfd,xro⟩:=x
 obtain⟨h1,h2,h3,h4,h5,h6,h7⟩:=hf
 simp only at h1 h2 h3 h4 h5 h6 h7 hm
 have hmr:mode≠ .run:=by intro e;subst e;cases h5;exact hm rfl
 unfold Ev.unwind
 cases h4 with
 | @cons d d' dl dl' hd hds=>
  cases hd with
  | @mark bk l hφ=>
   simp only
   split
   ·rename_i dd hg
    obtain⟨x',g1,g2⟩:=hr.dfr_at hφ hg
    have hstep:=step_collected (P:=P) (fr:=⟨fn,tmps,todo,⟨.collected l.cb,#[]⟩::dl',mode,kind,ro⟩) (cs:=cs++cs0) hmr rfl rfl (cg (P:=P) g1)
    refine⟨_,.one hstep,φ,_,cs,_,rfl,⟨h1,h2,h3,g2.append hds,h5,h6,h7⟩,hfs,?_⟩
    exact hr.to (w':=Fd w l.cb (.deferred none)) (hr.hr.over hφ hg rfl .dfrN rfl) ⟨rfl,rfl,rfl⟩
   ·exact trivial
  | @call f args c as ha=>
   simp only
   have hfr:FR E φ ⟨xfn,xnt,xtm,xtodo,dl,xmode,xdfd,xro⟩ (⟨fn,tmps,todo,dl',mode,kind,ro⟩:Frame):=⟨h1,h2,h3,hds,h5,h6,h7⟩
   refine G6 hE hT hK (r:=(invoke (.fn (.func f) c) as).run P w) hr hfr hfs ?_ (cq (fr:=⟨fn,tmps,todo,⟨.fn (.func f) c,as⟩::dl',mode,kind,ro⟩) (d:=⟨.fn (.func f) c,as⟩) hmr rfl rfl)
   refine⟨as++c,by simpa using ha,fun fn q1 q2 q3=>?_⟩
   simp only [invoke]
   exact G1 q1 q2 q3 _
 |nil=>
  simp only
  cases h5 with
  |run=>exact absurd rfl hm
  |panicking hc=>
   rename_i l l'
   simp only
   cases hg:T.get F xfn with
   |none=>exact trivial
   |some g=>
    simp only
    obtain⟨fn',c',q1,q2,q3,q4⟩:=hT.fn _ _ hg
    cases hfs with
    |nil=>exact trivial
    | @cons y fy ys cs hy hys=>
     simp only
     have hstep:=step_going_panicked (P:=P) (fr:=⟨fn,tmps,todo,[],.panicking l',kind,ro⟩) (c:=fy) (cs:=cs++cs0) (w:=w) (chain:=l') ⟨rfl,rfl,fn',by rw [h1];exact q1⟩
     rw [←Frame.raise_mode]at hstep
     obtain⟨yfn,ynt,ytm,ytodo,ydefers,ymode,ydfd,yro⟩:=y
     have key:isD ytodo=false→Goes P E w0 cs0 (.one ⟨⟨yfn,ynt,ytm,ytodo,ydefers,Ev.raise ymode l,ydfd,yro⟩,ys,h⟩) (lone (⟨fn,tmps,todo,[],.panicking l',kind,ro⟩:Frame) (fy::(cs++cs0)) w):=
      fun hd=>⟨_,.one hstep,φ,_,cs,w,rfl,ce hy hd hc,hys,hr⟩
     cases hd:isD ytodo with
     |true=>
      cases ytodo with
      |nil=>cases hd
      |cons i r=>
       cases i with
       |drawn p lp=>exact⟨_,.one hstep,φ,_,cs,w,rfl,Up hy hc,hys,hr⟩
       |_=>cases hd
     |false=>
      have:=key hd
      cases ytodo with
      |nil=>exact this
      |cons i r=>cases i <;> first|(cases hd;done)|exact this
  |returning=>
   simp only
   cases hg:T.get F xfn with
   |none=>exact trivial
   |some g=>
    simp only
    obtain⟨fn',c',q1,q2,q3,rfl⟩:=hT.fn _ _ hg
    have hpl:TR φ xnt xtm tmps:=by
     cases h6 with
     |plain ht _=>exact ht
     |gone ht=>exact ht
     |drawn=>exact absurd (h7 rfl) hm
    split
    ·rename_i l hres
     obtain⟨v,r1,r2⟩:=Sk (w:=w) hE hr hpl hres
     have hff:P.funcs[fn]?=some fn':=by rw [h1];exact q1
     subst h2
     cases hfs with
     |nil=>
      cases xdfd with
      |true=>exact trivial
      |false=>exact⟨_,w,φ,v,.refl _ _,h1,⟨rfl,rfl,rfl,fn',hff,r1⟩,r2,hr⟩
     | @cons y fy ys cs hy hys=>
      simp only [Ev.doReturn]
      refine N8 (v':=v) hE hr (.cons hy hys) r2 fun c rest e=>?_
      rw [e]
      cases xdfd with
      |false=>exact step_leave_returned ⟨rfl,rfl,rfl,fn',hff,r1⟩
      |true=>
       have:=step_going_returned (P:=P) (fr:=⟨fn,tmps,todo,[],.returning,C2 true,ro⟩) (c:=c) (cs:=rest) (w:=w) (v:=v) rfl ⟨rfl,rfl,fn',hff,r1⟩
       rw [Uo]at this
       exact this
    ·exact trivial
theorem cu (hE:EnvOk P E)(hT:TabOk P E F)(hK:MemOk P K){c:Conf}{m:Machine}(hA:At E w0 cs0 c m):Goes P E w0 cs0 (Ev.step F K c) m:=by
 obtain⟨φ,fr,cs,w,rfl,hf,hfs,hr⟩:=hA.ex
 obtain⟨x,xs,h⟩:=c
 simp only at hf hfs hr
 cases hmd:x.mode with
 |returning=>
  have:=Ob (cs0:=cs0) hE hT hK hr hf hfs (by rw [hmd];intro e;cases e)
  obtain⟨xfn,xnt,xtm,xtodo,xdefers,xmode,xdfd,xro⟩:=x
  simp only at hmd;subst hmd;exact this
 |panicking l=>
  have:=Ob (cs0:=cs0) hE hT hK hr hf hfs (by rw [hmd];intro e;cases e)
  obtain⟨xfn,xnt,xtm,xtodo,xdefers,xmode,xdfd,xro⟩:=x
  simp only at hmd;subst hmd;exact this
 |run=>
  obtain⟨fn,tmps,todo,defers,mode,kind,ro⟩:=fr
  obtain⟨xfn,xnt,xtm,xtodo,xdefers,xmode,xdfd,xro⟩:=x
  simp only at hmd;subst hmd
  obtain⟨h1,h2,h3,h4,h5,h6,h7⟩:=hf
  simp only at h1 h2 h3 h4 h5 h6 h7
  cases h5
  have hb:BR' φ xfn xdfd xro (⟨fn,tmps,todo,defers,.run,kind,ro⟩:Frame):=⟨h1,h2,h3⟩
  simp only [Ev.step]
  cases h6 with
  |gone ht=>exact trivial
  | @drawn Rg q D td e p l kx _ kx' hs he hp ht hi=>
   exact mh (a:=⟨tmps,defers⟩) (b:=⟨fn,tmps,.inRegion Rg.ops (e.j::td)::kx',defers,.run,kind,ro⟩) hE hT hK hr hb h4 hi hfs hs he hp ht
  |plain ht hi=>
   cases hi with
   |nil=>
    simp only
    cases xro with
    |none=>
     simp only [leave]
     have hro:ro=none:=Q4 h3
     subst hro
     refine⟨_,.one (stepR_end (b:=⟨fn,tmps,[],defers,.run,kind,none⟩) (a:=⟨tmps,defers⟩) rfl),φ,_,cs,w,rfl,⟨h1,h2,.none,h4,.returning,.plain ht .nil,fun h=>by cases h⟩,hfs,hr⟩
    |some r=>
     exact Fz (jump:=none) (nt:=xnt) (dfd:=xdfd) (b:=⟨fn,tmps,[],defers,.run,kind,ro⟩) hE hr h3 hfs fun l v w' c rest e1 e2 e3=>by
      rw [e3];exact X7 (b:=⟨fn,tmps,[],defers,.run,kind,ro⟩) (a:=⟨tmps,defers⟩) e1 hb.kind e2
   | @cons i i' kx kx' hi hk=>
    simp only
    have hitem:(∀id ops,i'≠ .code (.region id ops true))→(∀f ps x y,i'≠ .code (.rangeFunc f ps x y))→
      Goes P E w0 cs0 (Be F K i kx xfn xnt xtm xdefers xdfd xro xs h) (lone (⟨fn,tmps,i'::kx',defers,.run,kind,ro⟩:Frame) (cs++cs0) w):=fun n1 n2=>
     b9 (a:=⟨tmps,defers⟩) (b:=⟨fn,tmps,i'::kx',defers,.run,kind,ro⟩) hE hT hK hr hb ht h4 hk hfs hi n1 n2
    cases hi with
    |code c=>
     cases c with
     |region id ops d=>
      cases d with
      |true=>exact co (a:=⟨tmps,defers⟩) (b:=⟨fn,tmps,.code (.region id ops true)::kx',defers,.run,kind,ro⟩) hE hr hb ht h4 hk hfs id ops
      |false=>exact hitem (fun _ _ e=>by cases e) (fun _ _ _ _ e=>by cases e)
     |rangeFunc f ps x y=>exact s8 (a:=⟨tmps,defers⟩) (b:=⟨fn,tmps,.code (.rangeFunc f ps x y)::kx',defers,.run,kind,ro⟩) hE hT hK hr hb ht h4 hk hfs f ps x y
     |_=>exact hitem (fun _ _ e=>by cases e) (fun _ _ _ _ e=>by cases e)
    |_=>exact hitem (fun _ _ e=>by cases e) (fun _ _ _ _ e=>by cases e)
end
section
variable (F:T CFn)(K:T (List AV×AV))
noncomputable def O7 (q:Nat→AV→Bool):Nat→Conf→Bool
 |0=>fun _=>false
 |Nat.succ n=>fun c=>match step F K c with
  | .one c=>O7 q n c
  | .many l=>List.foldr (fun c (b:Bool)=>match O7 q n c with|true=>b|false=>false) true l
  | .done fn v _=>q fn v
  | .fail=>false
end
noncomputable def Mh (t:T Blk):List Nat→T Blk
 | []=> .leaf
 |b::r=>match T.get t b with
  |some x=>T.set (Mh t r) b (some x)
  |none=>Mh t r
noncomputable def trim (ts bs:List Nat)(n:Nat)(c:Conf):Option Conf:=
 match c with
 |⟨⟨fn,nt,tm,todo,ds,mode,dfd,ro⟩,cs,h⟩=>match Nat.ble h.n n with
  |true=>some ⟨⟨fn,nt,only tm ts,todo,ds,mode,dfd,ro⟩,cs,⟨n,Mh h.t bs⟩⟩
  |false=>none
noncomputable def start (F:T CFn)(f:Nat)(args:List AV):Option Conf:=match T.get F f with
 |some g=>(match Nat.ble args.length g.ntmps with
  |true=>some ⟨⟨f,g.ntmps,ofL 0 .leaf args,[.code g.body],[],.run,false,none⟩,[],⟨0,.leaf⟩⟩
  |false=>none)
 |none=>none
section
variable {P:Program}{E:Env}{F:T CFn}{K:T (List AV×AV)}
def Good (P:Program)(E:Env)(Q:Nat→AV→Prop)(c:Conf):Prop:=
 ∀(w0:World) (cs0:List Frame) (m:Machine),At E w0 cs0 c m→ ∃fn v h fr w φ v',Q fn v∧Steps P m (lone fr cs0 w)∧fr.fn=fn∧fr.leaving P w (.returned v')∧VR φ v v'∧HW E w0 φ h w
theorem P6 (hE:EnvOk P E)(hT:TabOk P E F)(hK:MemOk P K){Q:Nat→AV→Prop}{c:Conf}(h:match step F K c with
  | .one c'=>Good P E Q c'| .many l=> ∀c'∈l,Good P E Q c'| .done fn v _=>Q fn v| .fail=>False):Good P E Q c:=by
 intro w0 cs0 m hA
 have:=cu (w0:=w0) (cs0:=cs0) hE hT hK hA
 cases hs:step F K c with
 |one c'=>
  rw [hs]at this h
  obtain⟨m',s1,s2⟩:=this
  obtain⟨fn,v,h,fr,w,φ,v',q,s,r⟩:=h w0 cs0 m' s2
  exact⟨fn,v,h,fr,w,φ,v',q,s1.trans s,r⟩
 |many l=>
  rw [hs]at this h
  obtain⟨c',hc,m',s1,s2⟩:=this
  obtain⟨fn,v,h,fr,w,φ,v',q,s,r⟩:=h c' hc w0 cs0 m' s2
  exact⟨fn,v,h,fr,w,φ,v',q,s1.trans s,r⟩
 |done fn v h'=>
  rw [hs]at this h
  obtain⟨fr,w,φ,v',s1,s2,s3,s4,s5⟩:=this
  exact⟨fn,v,h',fr,w,φ,v',h,s1,s2,s3,s4,s5⟩
 |fail=>rw [hs]at h;exact h.elim
theorem Lb (hE:EnvOk P E)(hT:TabOk P E F)(hK:MemOk P K){q:Nat→AV→Bool}: ∀(n:Nat) (c:Conf),O7 F K q n c=true→Good P E (fun fn v=>q fn v=true) c
 |0,c,h=>by simp [O7]at h
 |n+1,c,h=>by
  simp only [O7]at h
  refine P6 hE hT hK ?_
  cases hs:step F K c with
  |one c'=>rw [hs]at h;exact Lb hE hT hK n c' h
  |many l=>
   rw [hs]at h
   simp only at h ⊢
   have key: ∀l:List Conf,List.foldr (fun c (b:Bool)=>match O7 F K q n c with|true=>b|false=>false) true l=true→ ∀c∈l,O7 F K q n c=true:=by
    intro l
    induction l with
    |nil=>intro _ c hc;cases hc
    |cons a l ih=>
     intro h c hc
     simp only [List.foldr]at h
     split at h
     ·rename_i ha
      rcases List.mem_cons.1 hc with e|hc
      ·rw [e];exact ha
      ·exact ih h c hc
     ·cases h
   exact fun c' hc=>Lb hE hT hK n c' (key l h c' hc)
  |done fn v h'=>rw [hs]at h;exact h
  |fail=>rw [hs]at h;cases h
theorem Lc (t:T Blk)(b:Nat): ∀l:List Nat,T.get (Mh t l) b=if b∈l then T.get t b else none
 | []=>by simp [Mh,T.get_leaf]
 |x::l=>by
  simp only [Mh]
  cases hx:T.get t x with
  |none=>
   simp only []
   rw [Lc t b l]
   by_cases e:b=x
   ·subst e;simp [hx]
   ·simp [e]
  |some v=>
   simp only []
   rw [T.get_set,Lc t b l]
   by_cases e:b=x
   ·subst e;simp [hx]
   ·simp [e]
theorem At.trim {w0:World}{cs0:List Frame}{ts bs:List Nat}{n:Nat}{c c':Conf}{m:Machine}(hA:At E w0 cs0 c m)(ht:Ev.trim ts bs n c=some c'):At E w0 cs0 c' m:=by
 obtain⟨φ,fr,cs,w,rfl,hf,hfs,hr⟩:=hA.ex
 obtain⟨⟨fn,nt,tm,todo,ds,mode,dfd,ro⟩,xs,h⟩:=c
 simp only [Ev.trim]at ht
 split at ht
 ·rename_i hn
  simp only [Option.some.injEq]at ht;subst ht
  have hn:=Ag hn
  have ex: ∀{b:Nat} {x:Blk},H.get ⟨n,Mh h.t bs⟩ b=some x→H.get h b=some x:=by
   intro b x hx
   have hx:T.get (Mh h.t bs) b=some x:=hx
   rw [Lc]at hx
   by_cases e:b∈bs
   ·rw [if_pos e]at hx;exact hx
   ·rw [if_neg e]at hx;cases hx
  have ext: ∀{t:Nat} {v:AV},T.get (only tm ts) t=some v→T.get tm t=some v:=by
   intro t v hv
   rw [J2]at hv
   by_cases e:t∈ts
   ·rw [if_pos e]at hv;exact hv
   ·rw [if_neg e]at hv;cases hv
  refine⟨φ,fr,cs,w,rfl,⟨hf.fn,hf.kind,hf.ro,hf.defers,hf.mode,?_,hf.dr⟩,hfs,?_⟩
  ·have hb:=hf.body
   simp only at hb
   generalize fr.tmps=q1 at hb ⊢
   generalize fr.todo=q2 at hb ⊢
   cases hb with
   |plain ht hi=>exact .plain ⟨ht.size,fun t v hv=>ht.val t v (ext hv)⟩ hi
   |gone ht=>exact .gone ⟨ht.size,fun t v hv=>ht.val t v (ext hv)⟩
   |drawn hs he hp ht hi=>exact .drawn hs he hp ⟨ht.size,fun t v hv=>ht.val t v (ext hv)⟩ hi
  ·have hw:=hr
   have hr:=hw.hr
   refine⟨?_,hw.like⟩
   exact⟨fun b l hb=>Nat.lt_of_lt_of_le (hr.bound b l hb) hn,hr.cbound,fun b l x hb hx=>hr.blk b l x hb (ex hx),fun b b' l l' x x' h1 h2 h3 h4=>hr.inj b b' l l' x x' h1 h2 (ex h3) (ex h4),
    fun b l x hb hx=>hr.own b l x hb (ex hx),hr.old,hr.size⟩
 ·cases ht
theorem HR.none (m:Array Obj):HR E m (fun _=>Option.none) ⟨0,.leaf⟩ m:=
 ⟨fun _ _ h=>(by cases h),fun _ _ h=>(by cases h),fun _ _ _ h=>(by cases h),fun _ _ _ _ _ _ h=>(by cases h),fun _ _ _ h=>(by cases h),fun _ _=>rfl,Nat.le_refl _⟩
theorem O8 (hT:TabOk P E F){Q:Nat→AV→Prop}{f:Nat}{args:List AV}{c:Conf}(hs:start F f args=some c)(hg:Good P E Q c){args':Array Value}(ha:VRs (fun _=>none) args args'.toList)(w:World)
  {R:Ending→World→Prop} (hQ: ∀fn v h φ v' (w':World),Q fn v→VR φ v v'→HW E w φ h w'→fn=f∧R (.returned v') w'):Calls P f args' w R:=by
 intro cs
 unfold start at hs
 split at hs
 ·rename_i g hgf
  split at hs
  ·rename_i hn
   simp only [Option.some.injEq]at hs;subst hs
   have hA:At E w cs ⟨⟨f,g.ntmps,ofL 0 .leaf args,[.code g.body],[],.run,false,Option.none⟩,[],⟨0,.leaf⟩⟩ (lone (Frame.enter P f args' .normal) cs w):=
    ⟨_,_,[],w,rfl,N9 (dfd:=false) hT hgf ha (Ag hn),.nil,⟨.none _,.refl _⟩⟩
   obtain⟨fn,v,h,fr,w',φ,v',q,s1,s2,s3,s4,s5⟩:=hg _ _ _ hA
   obtain⟨e,hR⟩:=hQ fn v h φ v' w' q s4 s5
   exact⟨.returned v',w',fr,hR,s1,by rw [s2,e],s3⟩
  ·cases hs
 ·cases hs
def Dn:Nat→AV→Bool
 |0,_=>false
 |d+1,v=>match v with
  | .bool _=>true
  | .int _ _=>true
  | .str _=>true
  | .nilp=>true
  | .nils=>true
  | .nilm=>true
  | .nilf=>true
  | .nili=>true
  | .fn (.func _) a c=>a.all (Dn d) && c.all (Dn d)
  | .ifc _ v=>Dn d v
  | .agg l=>l.all (Dn d)
  | .tup l=>l.all (Dn d)
  |_=>false
theorem M6: ∀(d:Nat) (v:AV),Dn d v=true→ ∀{φ φ':Phi} {v':Value},VR φ v v'→VR φ' v v'
 |0,v,h,φ,φ',v',_=>by simp [Dn]at h
 |d+1,v,h,φ,φ',v',hv=>by
  have hl: ∀(l:List AV) (l':List Value),l.all (Dn d)=true→VRs φ l l'→VRs φ' l l':=by
   intro l
   induction l with
   |nil=>intro l' _ h;cases h;exact .nil
   |cons a l ih=>
    intro l' ha h
    simp only [List.all_cons,Bool.and_eq_true]at ha
    cases h with|cons h1 h2=>exact .cons (M6 d a ha.1 h1) (ih _ ha.2 h2)
  cases hv with
  |bool b=>exact .bool b
  |int k n=>exact .int k n
  |str hs=>exact .str hs
  |nilp=>exact .nilp
  |nils=>exact .nils
  |nilm=>exact .nilm
  |nilf=>exact .nilf
  |nili=>exact .nili
  |ptr _=>simp [Dn]at h
  |slcX _ _ _ _=>simp [Dn]at h
  |slcU _ _ _ _=>simp [Dn]at h
  |map _=>simp [Dn]at h
  |fnF ha hc=>simp only [Dn,Bool.and_eq_true]at h;exact .fnF (hl _ _ h.1 ha) (hl _ _ h.2 hc)
  |fnY _=>simp [Dn]at h
  |ifc hv=>simp only [Dn]at h;exact .ifc (M6 d _ h hv)
  |agg ha=>simp only [Dn]at h;exact .agg (hl _ _ h ha)
  |tup ha=>simp only [Dn]at h;exact .tup (hl _ _ h ha)
  |opq _=>exact .opq _
  |unk _=>exact .unk _
theorem Sl {d:Nat}: ∀{l:List AV} {l':List Value},l.all (Dn d)=true→ ∀{φ φ':Phi},VRs φ l l'→VRs φ' l l'
 | [],_,_,φ,φ',h=>by cases h;exact .nil
 |a::l,_,ha,φ,φ',h=>by
  simp only [List.all_cons,Bool.and_eq_true]at ha
  cases h with|cons h1 h2=>exact .cons (M6 d a ha.1 h1) (Sl ha.2 h2)
theorem MemOk.add (hK:MemOk P K)(hT:TabOk P E F){f:Nat}{args:List AV}{v:AV}{c:Conf}(hs:start F f args=some c)(hg:Good P E (fun fn u=>fn=f∧u=v) c)(ha:args.all (Dn 20)=true)(hv:Dn 20 v=true):
  MemOk P (T.set K f (some (args,v))):=by
 refine⟨fun f' args' v' hk φ vs w hvs=>?_⟩
 rw [T.get_set]at hk
 by_cases e:f'=f
 ·subst e
  rw [if_pos rfl]at hk
  cases hk
  refine O8 hT hs hg (Sl ha hvs) w fun fn u h φ' u' w' q hu hr=>?_
  obtain⟨rfl,rfl⟩:=q
  exact⟨rfl,u',rfl,fun φ=> M6 20 _ hv hu,⟨hr.like.os,hr.like.tape,hr.like.output,hr.hr.size,fun k hk=>hr.hr.old k hk⟩⟩
 ·rw [if_neg e]at hk
  exact hK.ok _ _ _ hk φ vs w hvs
theorem MemOk.leaf:MemOk P .leaf:=⟨fun f args v h=>by rw [T.get_leaf]at h;cases h⟩
end
theorem Mi: ∀(l:List TypeInfo) (n:Nat) (t:T TypeInfo) (i:Nat),T.get (Io n l t) i=if n≤i∧i<n+l.length then l[i - n]? else T.get t i
 | [],n,t,i=>by simp [Io];omega
 |a::l,n,t,i=>by
  rw [Io,Mi l (n+1),T.get_set]
  by_cases h1:n+1≤i∧i<n+1+l.length
  ·rw [if_pos h1,if_pos (by simp;omega)]
   obtain⟨k,rfl⟩: ∃k,i=n+1+k:=⟨i - (n+1),by omega⟩
   rw [show n+1+k - (n+1)=k by omega,show n+1+k - n=k+1 by omega];simp
  ·rw [if_neg h1]
   by_cases h2:i=n
   ·subst h2;rw [if_pos rfl,if_pos (by simp)];simp
   ·rw [if_neg h2,if_neg (by simp;omega)]
noncomputable def qo (P:Program)(S:List Nat):Env:=⟨Io 0 P.types.toList .leaf,S⟩
noncomputable def tabOf (P:Program)(E:Env):T CFn:=Mx E 0 P.funcs.toList .leaf
theorem wq (P:Program)(S:List Nat)(hs:S.all (fun t=>!(P.stoodInHeld t) && !(P.eqGuardType P.depth t))=true)(hm:P.follows .mixedOrders=true):EnvOk P (qo P S):=by
 refine⟨fun t i h=>?_,fun t ht=>?_,hm⟩
 ·have h:T.get (Io 0 P.types.toList .leaf) t=some i:=h
  rw [Mi]at h
  split at h
  ·rw [Nat.sub_zero]at h
   have h:P.types[t]?=some i:=by simpa using h
   have hlt:t<P.types.size:=(Array.getElem?_eq_some_iff.1 h).1
   unfold Tables.info?
   rw [if_pos hlt];exact h
  ·rw [T.get_leaf]at h;cases h
 ·have:=List.all_eq_true.1 hs t ht
  simpa using this
theorem H5 (E:Env): ∀(l:List Func) (n:Nat) (t:T CFn) (i:Nat) (g:CFn),(∀i g,n≤i→T.get t i=some g→False)→T.get (Mx E n l t) i=some g→T.get t i=some g∨ ∃fn c,n≤i∧l[i - n]?=some fn∧fn.body=some c∧g=V5 E fn c
 | [],n,t,i,g,_,h=> .inl h
 |a::l,n,t,i,g,ht,h=>by
  rw [Mx]at h
  cases hb:a.body with
  |none=>
   rw [hb]at h
   rcases H5 E l (n+1) t i g (fun i g hi=>ht i g (by omega)) h with h|⟨fn,c,h1,h2,h3,h4⟩
   ·exact .inl h
   ·refine .inr ⟨fn,c,by omega,?_,h3,h4⟩
    rw [show i - n=(i - (n+1))+1 by omega];simpa using h2
  |some c=>
   rw [hb]at h
   simp only at h
   rcases H5 E l (n+1) _ i g (fun i g hi hg=>by rw [T.get_set,if_neg (by omega)]at hg;exact ht i g (by omega) hg) h with h|⟨fn,c',h1,h2,h3,h4⟩
   ·rw [T.get_set]at h
    by_cases e:i=n
    ·rw [if_pos e]at h;cases h
     exact .inr ⟨a,c,by omega,by rw [e,Nat.sub_self];rfl,hb,rfl⟩
    ·rw [if_neg e]at h;exact .inl h
   ·refine .inr ⟨fn,c',by omega,?_,h3,h4⟩
    rw [show i - n=(i - (n+1))+1 by omega];simpa using h2
theorem tabOk (P : Program) (E : Env) (hn : P.funcs.toList.all (fun f => !(f.name == "runtime.NumGoroutine")) = true) : TabOk P E (tabOf P E) := by
 refine⟨fun f g h=>?_⟩
 rcases H5 E P.funcs.toList 0 .leaf f g (fun _ _ _ h=>by rw [T.get_leaf]at h;cases h) h with h|⟨fn,c,h1,h2,h3,h4⟩
 ·rw [T.get_leaf]at h;cases h
 ·rw [Nat.sub_zero]at h2
  refine⟨fn,c,by simpa using h2,?_,h3,h4⟩
  have:=List.all_eq_true.1 hn fn (List.mem_of_getElem? h2)
  simpa using this
noncomputable def Ld (l:List AV):Blk:= .cells true l.length (ofL 0 .leaf l)
theorem Good.mono {P:Program}{E:Env}{Q Q':Nat→AV→Prop}{c:Conf}(hg:Good P E Q c)(h: ∀fn v,Q fn v→Q' fn v):Good P E Q' c:=
 fun w0 cs0 m hA=>let⟨fn,v,hh,fr,w,φ,v',q,r⟩:=hg w0 cs0 m hA;⟨fn,v,hh,fr,w,φ,v',h fn v q,r⟩
def qIs (f:Nat)(u:AV)(fn:Nat)(v:AV):Bool:=match Nat.beq fn f with
 |true=>Ex 20 v u
 |false=>false
theorem s9 {f:Nat}{u:AV}{fn:Nat}{v:AV}(h:qIs f u fn v=true):fn=f∧v=u:=by
 unfold qIs at h
 split at h
 ·rename_i hb;exact⟨Aj hb,M0 _ _ _ h⟩
 ·cases h
noncomputable def Uq (o:Option Conf):Conf:=match o with
 |some c=>c
 |none=>⟨⟨0,0,.leaf,[],[],.run,false,none⟩,[],⟨0,.leaf⟩⟩
def Q5 (o:Option Conf):Bool:=match o with
 |some _=>true
 |none=>false
theorem P7 {o:Option Conf}(h:Q5 o=true):o=some (Uq o):=by
 cases o with
 |none=>cases h
 |some c=>rfl
theorem Sn {P:Program}{E:Env}{F:T CFn}{K:T (List AV×AV)}(hE:EnvOk P E)(hT:TabOk P E F)(hK:MemOk P K){f:Nat}{u:AV}{n:Nat}{c:Conf}(h:O7 F K (qIs f u) n c=true):
  Good P E (fun fn v=>fn=f∧v=u) c:=
 (Lb hE hT hK n c h).mono fun _ _=>s9
end Go.Ev
