/- LedgerSums: whatever the acts, the calls and the number, the function returns true, and nothing that was there has turned. It is said where the two variables coins hold what the program text lays in them; the card ties that to the text. -/
import Derived.Test.YtlginbmjiecglaaGreatDoorQ27
import Derived.Test.YtlginbmjiecglaaGreatDoorTie
import Derived.Test.YtlginbmjiecglaaGreatDoorCards
import Derived.ProofKit
import Derived.Stop.Joined
import Derived.MakeChecks
import Derived.SevenTiedAt
namespace Go.Proofs.YtlginbmjiecglaaGreatDoor
section
open Go Go.Abs Go.ChangeShapes Go.WideShapes Go.ChangeAt Go.RowKit
set_option maxRecDepth 100000
theorem Tryz.b3i:ownKnob Tryz.prog.godebug=none:=by kernel_rfl
theorem Tryz.j6k:laidOutB Tryz.prog=true:=by kernel_rfl
theorem j9u:Tryz.prog.globals.size<(begin Tryz.prog (fun _ _=>0) default).world.heap.size:=of_decide_eq_true (by kernel_rfl)
abbrev j1Z : List (String × DataW Unit) := [("bursar/bursarhand.coins", Rows.laid_bursar_bursarhand_coins), ("bursar/bursarlaw19.coins", Rows.laid_bursar_bursarlaw19_coins)]
theorem j8Z : Tryz.prog.globalNamed "bursar/bursarhand.coins" = some 1 := by kernel_rfl
theorem b03:(Tryz.prog.globals[1]?).map (·.type)=some 79:=by kernel_rfl
theorem j1F : Tryz.prog.globalNamed "bursar/bursarlaw19.coins" = some 0 := by kernel_rfl
theorem a4n:(Tryz.prog.globals[0]?).map (·.type)=some 70:=by kernel_rfl
theorem j3H (os:Os) (args:Array Value):laidMetH Tryz.prog j1Z ((World.doorLaid Tryz.prog 400 os).forCall (fun _ _=>0) ⟨#[],args,[]⟩).memory:=
 laidMetH_of_parts3 (fuel:=8) (laidMet_of_run' 8 (by kernel_rfl) (by kernel_rfl)) (by kernel_rfl) (by kernel_rfl)
theorem j3x {W:World} (h:laidMetH Tryz.prog j1Z W):(∃ro,(z0J W).get 1=some (.cells z7h ro))/\∃ro,(z0J W).get 0=some (.cells z7k ro):=by
 rw[MakeChecks.laidMetH_plain _ _ _ (by kernel_rfl)]at h;obtain⟨ps,⟨g0,t0,cs0,f0,p0,q0,hg0,ht0,hv0,hd0,⟨g1,t1,cs1,f1,p1,q1,hg1,ht1,hv1,hd1,_,_⟩,_⟩,_,_⟩:=h;obtain rfl:=xsj (j8Z.symm.trans hg0);obtain rfl:=xsj (b03.symm.trans ht0);obtain rfl:=xsj (j1F.symm.trans hg1);obtain rfl:=xsj (a4n.symm.trans ht1);have e:=z1V (n:=3) (e:=9) (ss:=[j2h,j2i,j2j]) hd0 (by kernel_rfl) (by kernel_rfl) (by kernel_rfl) (by kernel_rfl)
 have g:=j3i j8Z hv0;rw[e]at g;have e':=z1V (n:=4) (e:=9) (ss:=[j2h,j2i,j2j,[101,117,114]]) hd1 (by kernel_rfl) (by kernel_rfl) (by kernel_rfl) (by kernel_rfl);have g':=j3i j1F hv1;rw[e']at g';exact⟨⟨true,g⟩,⟨true,g'⟩⟩
theorem j3o {W:World} {H:Type} {enc:TypeId×Value->H} {v:Value} {base:Nat} {d:DataW H} {p:List MemPlace} (h:Value.okWide Tryz.prog W .any base 22 v) (hr:DataW.Trod enc Tryz.prog W 0 (fun _=>true) true 22 v d p) :
  ∃l:List (Int×Int×Int×Int),z2C 4 (z0J W) (z2N W v) (l.map j9j)/\∀a∈l,i64 a.2.2.2:=by
 have hu:Tryz.prog.underlying 22=some (.slice 77):=by kernel_rfl
 have hi:Tryz.prog.underlying 3=some (.int .i64):=by kernel_rfl
 refine j3p (f:=j9j) (Q:=fun a=>i64 a.2.2.2) (n:=4) (by omega) hu (by kernel_rfl) h hr ?_ (fun a=>⟨rfl,rfl⟩)
 intro m cs y hl ht;have hst:∃fs,Tryz.prog.underlying 77=some (.struct fs)/\∀k,k<4->∃g∈fs.toList,g.offset=k/\g.type=3:=by
  refine⟨_,rfl,?_⟩;intro k hk;have:k=0\/k=1\/k=2\/k=3:=by omega
  rcases this with rfl|rfl|rfl|rfl
  ·exact⟨_,xmc,rfl,rfl⟩
  ·exact⟨_,List.mem_cons_of_mem _ xmc,rfl,rfl⟩
  ·exact⟨_,List.mem_cons_of_mem _ (List.mem_cons_of_mem _ xmc),rfl,rfl⟩
  ·exact⟨_,List.mem_cons_of_mem _ (List.mem_cons_of_mem _ (List.mem_cons_of_mem _ xmc)),rfl,rfl⟩
 obtain⟨fs,hfs,hfl⟩:=hst;obtain⟨m',_,hel⟩:=trod_struct hfs ht;have hc1:Tryz.prog.cellsOf 3=1:=by kernel_rfl
 have fld:∀k,k<4->∃n,cs[k]? = some (.int .i64 n)/\i64 n:=fun k hk=>by
  obtain⟨g,hg,h1,h2⟩:=hfl k hk;obtain⟨z,hz⟩:=hel g hg;rw[h1,h2,hc1,List.drop_eq_getElem_cons (show k<cs.length by omega),List.take_succ_cons,List.take_zero]at hz;obtain⟨n,e1,e2,e3⟩:=trod_int hi hz;have e4:IntKind.i64.min=-9223372036854775808:=by decide
  have e5:IntKind.i64.max=9223372036854775807:=by decide
  exact⟨n,by rw[xgq (by omega),e1],by unfold i64;omega⟩
 obtain⟨n0,e0,_⟩:=fld 0 (by omega);obtain⟨n1,e1,_⟩:=fld 1 (by omega);obtain⟨n2,e2,_⟩:=fld 2 (by omega);obtain⟨n3,e3,h3⟩:=fld 3 (by omega)
 match cs,hl,e0,e1,e2,e3 with
 |[a,b,c,d],_,e0,e1,e2,e3=>
  simp only[ge,xoi]at e0 e1 e2 e3;subst e0 e1 e2 e3;exact⟨(n0,n1,n2,n3),rfl,h3⟩
theorem one_cell {cs:List Value} {o:Nat} (h:o<cs.length):(cs.drop o).take 1=[cs[o]]:=by rw[List.drop_eq_getElem_cons h,List.take_succ_cons,List.take_zero]
instance:Inhabited q2k:=⟨⟨0,0,0,[],[],⟨0,0⟩,0,0,false,false⟩⟩
theorem z8K {W:World} {H:Type} {enc:TypeId×Value->H} {v:Value} {base:Nat} {d:DataW H} {p:List MemPlace} (h:Value.okWide Tryz.prog W .any base 58 v) (hr:DataW.Trod enc Tryz.prog W 0 (fun _=>true) true 58 v d p)
  (hB:∀k,k∈d.weights Tryz.prog 58->k<=140737488355328):∃l:List q2k,z2C 11 (z0J W) (z2N W v) (l.map (·.cells))/\∀a∈l,q2k.ok a:=by
 have hu:Tryz.prog.underlying 58=some (.slice 65):=by kernel_rfl
 have i64':Tryz.prog.underlying 3=some (.int .i64):=by kernel_rfl
 have u64':Tryz.prog.underlying 26=some (.int .u64):=by kernel_rfl
 have str':Tryz.prog.underlying 9=some .string:=by kernel_rfl
 have bool':Tryz.prog.underlying 4=some .bool:=by kernel_rfl
 refine z8L (f:=q2k.cells) (Q:=q2k.ok) (n:=11) (B:=140737488355328) (by omega) hu (by kernel_rfl) h hr hB ?_ (fun a=>⟨rfl,rfl⟩)
 intro m cs y hl ht hy;have hst:∃fs,Tryz.prog.underlying 65=some (.struct fs)/\(∃g∈fs.toList,g.offset=0/\g.type=3)/\(∃g∈fs.toList,g.offset=1/\g.type=26)/\(∃g∈fs.toList,g.offset=2/\g.type=26)/\(∃g∈fs.toList,g.offset=3/\g.type=9)/\
   (∃g∈fs.toList,g.offset=4/\g.type=9)/\(∃g∈fs.toList,g.offset=5/\g.type=45)/\(∃g∈fs.toList,g.offset=8/\g.type=3)/\(∃g∈fs.toList,g.offset=9/\g.type=4)/\(∃g∈fs.toList,g.offset=10/\g.type=4):=by
  refine⟨_,rfl,⟨_,xmc,rfl,rfl⟩,⟨_,.tail _ xmc,rfl,rfl⟩,⟨_,.tail _ (.tail _ xmc),rfl,rfl⟩,⟨_,.tail _ (.tail _ (.tail _ xmc)),rfl,rfl⟩,⟨_,.tail _ (.tail _ (.tail _ (.tail _ xmc))),rfl,rfl⟩,
   ⟨_,.tail _ (.tail _ (.tail _ (.tail _ (.tail _ xmc)))),rfl,rfl⟩,⟨_,.tail _ (.tail _ (.tail _ (.tail _ (.tail _ (.tail _ xmc))))),rfl,rfl⟩,⟨_,.tail _ (.tail _ (.tail _ (.tail _ (.tail _ (.tail _ (.tail _ xmc)))))),rfl,rfl⟩,
   ⟨_,.tail _ (.tail _ (.tail _ (.tail _ (.tail _ (.tail _ (.tail _ (.tail _ xmc))))))),rfl,rfl⟩⟩
 obtain⟨fs,hfs,q0,q1,q2,q3,q4,q5,q8,q9,q10⟩:=hst;obtain⟨m',_,hel⟩:=q4i hfs ht;have c3:Tryz.prog.cellsOf 3=1:=by kernel_rfl
 have c26:Tryz.prog.cellsOf 26=1:=by kernel_rfl
 have c9:Tryz.prog.cellsOf 9=1:=by kernel_rfl
 have c4:Tryz.prog.cellsOf 4=1:=by kernel_rfl
 have c45:Tryz.prog.cellsOf 45=3:=by kernel_rfl
 have e1:IntKind.i64.min=-9223372036854775808:=by decide
 have e2:IntKind.i64.max=9223372036854775807:=by decide
 have e3:IntKind.u64.min=0:=by decide
 have e4:IntKind.u64.max=18446744073709551615:=by decide
 have fI:∀o,o<11->(∃g∈fs.toList,g.offset=o/\g.type=3)->∃n,cs[o]? = some (.int .i64 n)/\-9223372036854775808<=n/\n<9223372036854775808:=fun o ho ⟨g,hg,h1,h2⟩=>by
  obtain⟨z,hz,_⟩:=hel g hg;rw[h1,h2,c3,one_cell (by omega)]at hz;obtain⟨n,r1,r2,r3⟩:=trod_int i64' hz;exact⟨n,by rw[xgq (by omega),r1],by omega,by omega⟩
 have fU:∀o,o<11->(∃g∈fs.toList,g.offset=o/\g.type=26)->∃n,cs[o]? = some (.int .u64 n)/\0<=n/\n<18446744073709551616:=fun o ho ⟨g,hg,h1,h2⟩=>by
  obtain⟨z,hz,_⟩:=hel g hg;rw[h1,h2,c26,one_cell (by omega)]at hz;obtain⟨n,r1,r2,r3⟩:=trod_int u64' hz;exact⟨n,by rw[xgq (by omega),r1],by omega,by omega⟩
 have fS:∀o,o<11->(∃g∈fs.toList,g.offset=o/\g.type=9)->∃n:ByteArray,cs[o]? = some (.string n)/\n.data.toList.length<=140737488355328:=fun o ho ⟨g,hg,h1,h2⟩=>by
  obtain⟨z,hz,hw⟩:=hel g hg;rw[h2]at hw;rw[h1,h2,c9,one_cell (by omega)]at hz;obtain⟨n,r1,r2⟩:=trod_string str' hz;exact⟨n,by rw[xgq (by omega),r1],hy _ (hw _ r2)⟩
 have fB:∀o,o<11->(∃g∈fs.toList,g.offset=o/\g.type=4)->∃n,cs[o]? = some (.bool n):=fun o ho ⟨g,hg,h1,h2⟩=>by
  obtain⟨z,hz,_⟩:=hel g hg;rw[h1,h2,c4,one_cell (by omega)]at hz;obtain⟨n,r1⟩:=trod_bool bool' hz;exact⟨n,by rw[xgq (by omega),r1]⟩
 have fD:∃hi lo sc,cs[5]? = some (.int .i64 hi)/\cs[6]? = some (.int .u64 lo)/\cs[7]? = some (.int .i64 sc)/\(-9223372036854775808<=hi/\hi<9223372036854775808)/\0<=lo/\lo<18446744073709551616:=by
  obtain⟨g,hg,h1,h2⟩:=q5;obtain⟨z,hz,_⟩:=hel g hg;rw[h1,h2,c45]at hz;have hsd:∃gs,Tryz.prog.underlying 45=some (.struct gs)/\(∃g∈gs.toList,g.offset=0/\g.type=43)/\(∃g∈gs.toList,g.offset=2/\g.type=3):=⟨_,rfl,⟨_,xmc,rfl,rfl⟩,⟨_,.tail _ xmc,rfl,rfl⟩⟩;obtain⟨gs,hgs,⟨w0,k0,k1,k2⟩,⟨w1,k3,k4,k5⟩⟩:=hsd;obtain⟨m2,_,hel2⟩:=q4i hgs hz;obtain⟨z1,hz1,_⟩:=hel2 w1 k3;obtain⟨z0,hz0,_⟩:=hel2 w0 k0;have c43:Tryz.prog.cellsOf 43=2:=by kernel_rfl
  rw[k4,k5,c3]at hz1;rw[k1,k2,c43]at hz0;have hsw:∃gs,Tryz.prog.underlying 43=some (.struct gs)/\(∃g∈gs.toList,g.offset=0/\Tryz.prog.underlying g.type=some (.int .i64)/\Tryz.prog.cellsOf g.type=1)/\(∃g∈gs.toList,g.offset=1/\Tryz.prog.underlying g.type=some (.int .u64)/\Tryz.prog.cellsOf g.type=1):=⟨_,rfl,⟨_,xmc,rfl,rfl,rfl⟩,⟨_,.tail _ xmc,rfl,rfl,rfl⟩⟩;obtain⟨ws,hws,⟨x0,j0,j1,j2,j3⟩,⟨x1,j4,j5,j6,j7⟩⟩:=hsw
  obtain⟨m3,_,hel3⟩:=q4i hws hz0;obtain⟨y0,hy0,_⟩:=hel3 x0 j0;obtain⟨y1,hy1,_⟩:=hel3 x1 j4;rw[j1,j3]at hy0;rw[j5,j7]at hy1
  match cs,hl,hz1,hy0,hy1 with
  |[_,_,_,_,_,f,g,h,_,_,_],_,hz1,hy0,hy1=>
   obtain⟨n0,r0,s0,s1⟩:=trod_int j2 (V:=f) hy0;obtain⟨n1,r1,s2,s3⟩:=trod_int j6 (V:=g) hy1;obtain⟨n2,r2,_,_⟩:=trod_int i64' (V:=h) hz1;exact⟨n0,n1,n2,by rw[r0];rfl,by rw[r1];rfl,by rw[r2];rfl,by omega,by omega,by omega⟩
 obtain⟨n0,a0,b0⟩:=fI 0 (by omega) q0;obtain⟨n1,a1,b1⟩:=fU 1 (by omega) q1;obtain⟨n2,a2,b2⟩:=fU 2 (by omega) q2;obtain⟨n3,a3,b3⟩:=fS 3 (by omega) q3;obtain⟨n4,a4,b4⟩:=fS 4 (by omega) q4;obtain⟨n5,n6,n7,a5,a6,a7,b5,b6⟩:=fD;obtain⟨n8,a8,b8⟩:=fI 8 (by omega) q8;obtain⟨n9,a9⟩:=fB 9 (by omega) q9;obtain⟨n10,a10⟩:=fB 10 (by omega) q10;refine⟨⟨n0,n1,n2,n3.data.toList,n4.data.toList,⟨n5,n6⟩,n7,n8,n9,n10⟩,?_,⟨b0,b1,b2,b3,b4,?_,b8⟩⟩
 ·clear fI fU fS fB hel ht
  match cs,hl,a0,a1,a2,a3,a4,a5,a6,a7,a8,a9,a10 with
  |[_,_,_,_,_,_,_,_,_,_,_],_,a0,a1,a2,a3,a4,a5,a6,a7,a8,a9,a10=>
   simp only[ge,xoi]at a0 a1 a2 a3 a4 a5 a6 a7 a8 a9 a10;subst a0 a1 a2 a3 a4 a5 a6 a7 a8 a9 a10;rfl
 ·unfold Wd.ok;simp only;omega
set_option maxHeartbeats 2000000 in
theorem q6p (os:Os) (started:os.Started) (H:Type) (enc:TypeId×Value->H) :
  ReturnsInHanded {} Tryz.checked os 6 .any (fun w args=>(Rows.ledgerSumsSpec.pre enc Tryz.prog Tryz.f6 [] false w args/\laidMetH Tryz.prog j1Z w)/\sizedMet enc Tryz.prog Tryz.f6 (OpenSpec.ofChange Rows.ledgerSumsSpec) false w args)
   (Rows.ledgerSumsSpec.post enc Tryz.prog Tryz.f6 false true false false):=by
 refine q6d (C:=Tryz.checked) (X:=fun w _=>laidMetH Tryz.prog j1Z w) (fun _ _ _ hh h=>h.of_heap hh) Tryz.b3i started (by kernel_rfl) Tryz.func6
  (ChangeSpec.witness_shaped (enc:=enc) (C:=Tryz.checked) (os:=os) (X:=fun w _=>laidMetH Tryz.prog j1Z w) false (World.doorLaid Tryz.prog 400 os) #[.int .i64 0,.slice none 0 0,.slice none 0 0] 8 rfl (World.shaped_of_RefB (by kernel_rfl) (by kernel_rfl)) (by kernel_rfl) (by kernel_rfl) (by kernel_rfl) (j3H os _)) ?_
 intro W base args ds gs before hval0 hW _ hwt hL hsh _;have hW':=hW;obtain⟨p,q,hA0,hV,rfl,hfz,hnd⟩:=hW;have hA:DataW.TrodAll enc Tryz.prog W 0 (fun _=>true) true Tryz.f6.params.toList args.toList ds p:=hA0
 rw[Tryz.params6]at hA hwt;obtain⟨v1,vs1,d1,ds1,p1,q1,ha1,rfl,hr1,hA1⟩:=q42 hA;obtain⟨v2,vs2,d2,ds2,p2,q2,rfl,rfl,hr2,hA2⟩:=q42 hA1;obtain⟨v3,vs3,d3,ds3,p3,q3,rfl,rfl,hr3,hA3⟩:=q42 hA2;obtain⟨rfl,rfl⟩:=z6Y hA3;obtain⟨rfl,rfl⟩:=trodVars_none hV;have hargs:args=#[v1,v2,v3]:=by rw[<-Array.toArray_toList (xs:=args),ha1]
 subst hargs;obtain⟨most,rfl,hx1,hx2⟩:=j9r (W:=W) (k:=.i64) (P:=Tryz.prog) (t:=3) (by kernel_rfl) (hval0 0 3 v1 (by kernel_rfl) rfl);obtain⟨acts,hr,hN⟩:=j3o (hval0 1 22 v2 (by kernel_rfl) rfl) hr2;obtain⟨ts,hrt,hok⟩:=z8K (hval0 2 58 v3 (by kernel_rfl) rfl) hr3 (fun k hk=>by
  have:=List.all_eq_true.1 hwt k (by simp only[DataW.weightsEach,List.cons_append,List.nil_append,xma];exact .inr (.inr (.inl hk)));have h2:k<=reachBytes:=by simpa using this
  exact xnt0 h2 (by unfold reachBytes;omega))
 obtain⟨hc1,hc2⟩:=j3x hL;obtain⟨m',hrun⟩:=j6s (z0J W) hr hN hrt hok hc1 hc2 most;refine(j14 (E:=E30) a4U (f:=6) Tryz.func6 (by kernel_rfl) (by decide +kernel) (z4d hsh j9u) (args:=[.int .i64 most,v2,v3]) hrun).mono fun e W' ⟨he,hb⟩=>?_
 subst he;exact⟨_,rfl,j6l (P:=Tryz.prog) (tb:=4) Tryz.j6k (by decide +kernel) (by kernel_rfl) (by kernel_rfl) rfl hW' rfl hb⟩
theorem q8A:Rows.LedgerSumsSaid:=
 OpenClaim.holds_of_wide 6 Tryz.f6 rfl rfl rfl rfl rfl rfl rfl ⟨rfl,rfl,rfl,rfl,rfl⟩ rfl rfl rfl rfl rfl (by kernel_rfl) Tryz.func6 (by kernel_rfl)
  (of_decide_eq_true (by kernel_rfl)) (by unfold Func.isWrapper;first|(rw[if_pos (by decide +kernel)];kernel_rfl)|(rw[if_neg (by decide +kernel)];exact⟨rfl,rfl⟩))
  (fun os started H enc _=>q6p os started H enc)
theorem ledgerSums_holds:Rows.LedgerSumsCardSaid:=
 Claim7.holds_tied_plain_at .later [] [.data,.data] true _ false
  q8A (fun _ h=>by cases h) (by kernel_rfl) (fun _ h=>by cases h) ledgerSums_row_tie rfl ⟨rfl,rfl⟩ (by kernel_rfl) rfl
  (fun f fn hf hfn=>by
   obtain rfl : f = 6 := xsj ((show Tryz.prog.funcNamed "bursar/bursarlaw19.LedgerSums" = some 6 by kernel_rfl).symm.trans hf) |>.symm
   obtain rfl:fn=Tryz.f6:=(xsj (Tryz.func6.symm.trans hfn)).symm;exact⟨by kernel_rfl,fun j t ht=>by
    rw[Tryz.params6]at ht;have hm:t∈[3,22,58]:=by simpa using Array.mem_of_getElem? ht
    have hall:([3,22,58].all fun u=>!Tryz.prog.wantsStandIn u)=true:=by kernel_rfl
    exact(show Tryz.prog.wantsStandIn t=false by simpa using List.all_eq_true.1 hall t hm)⟩)
  (by kernel_rfl)
#print axioms ledgerSums_holds
end
end Go.Proofs.YtlginbmjiecglaaGreatDoor
