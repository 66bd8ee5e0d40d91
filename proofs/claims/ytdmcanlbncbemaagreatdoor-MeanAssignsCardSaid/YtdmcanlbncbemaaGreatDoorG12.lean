/-
 A part of the proof that pliantlaw16.MeanAssigns returns true and leaves its arguments alone. Conditions: those of the card in the last text.
-/
import Derived.KernelRfl
import Derived.Test.YtdmcanlbncbemaaGreatDoorG07
import Derived.Test.YtdmcanlbncbemaaGreatDoorG08
import Derived.Test.YtdmcanlbncbemaaGreatDoorG10
set_option linter.unusedVariables false
set_option maxRecDepth 100000
set_option maxHeartbeats 8000000
noncomputable section
namespace Go.Proofs.MN
open Go Go.Ev Go.Proofs
noncomputable def FL:List (Nat×Func):=[(3,Tryz.f3),(6,Tryz.f6),(7,Tryz.f7),(8,Tryz.f8),(9,Tryz.f9),(10,Tryz.f10),(11,Tryz.f11),(12,Tryz.f12),(13,Tryz.f13),(14,Tryz.f14),(15,Tryz.f15),(16,Tryz.f16),(17,Tryz.f17),(18,Tryz.f18),(19,Tryz.f19),(20,Tryz.f20),(21,Tryz.f21),(23,Tryz.f23),(24,Tryz.f24),(26,Tryz.f26),(27,Tryz.f27),(28,Tryz.f28),(29,Tryz.f29),(30,Tryz.f30),(31,Tryz.f31),(32,Tryz.f32),(36,Tryz.f36),(37,Tryz.f37),(38,Tryz.f38),(39,Tryz.f39),(40,Tryz.f40),(42,Tryz.f42),(43,Tryz.f43),(44,Tryz.f44),(45,Tryz.f45),(46,Tryz.f46),(47,Tryz.f47),(48,Tryz.f48),(49,Tryz.f49),(50,Tryz.f50),(51,Tryz.f51),(52,Tryz.f52),(54,Tryz.f54),(55,Tryz.f55),(56,Tryz.f56),(57,Tryz.f57),(58,Tryz.f58),(59,Tryz.f59),(61,Tryz.f61),(62,Tryz.f62),(63,Tryz.f63),(65,Tryz.f65),(66,Tryz.f66),(68,Tryz.f68),(69,Tryz.f69),(70,Tryz.f70),(71,Tryz.f71),(72,Tryz.f72),(73,Tryz.f73),(74,Tryz.f74),(75,Tryz.f75),(76,Tryz.f76),(78,Tryz.f78),(79,Tryz.f79),(81,Tryz.f81),(82,Tryz.f82),(83,Tryz.f83),(84,Tryz.f84),(85,Tryz.f85),(86,Tryz.f86),(87,Tryz.f87),(88,Tryz.f88),(90,Tryz.f90),(91,Tryz.f91),(92,Tryz.f92),(94,Tryz.f94),(97,Tryz.f97),(99,Tryz.f99),(103,Tryz.f103),(104,Tryz.f104),(105,Tryz.f105),(106,Tryz.f106),(109,Tryz.f109),(110,Tryz.f110),(111,Tryz.f111),(112,Tryz.f112),(114,Tryz.f114),(115,Tryz.f115),(116,Tryz.f116),(119,Tryz.f119),(120,Tryz.f120),(121,Tryz.f121),(122,Tryz.f122),(123,Tryz.f123),(124,Tryz.f124),(125,Tryz.f125),(126,Tryz.f126),(127,Tryz.f127),(130,Tryz.f130),(131,Tryz.f131),(132,Tryz.f132),(133,Tryz.f133),(134,Tryz.f134),(135,Tryz.f135),(136,Tryz.f136),(137,Tryz.f137),(139,Tryz.f139),(140,Tryz.f140),(141,Tryz.f141),(142,Tryz.f142),(143,Tryz.f143),(144,Tryz.f144),(145,Tryz.f145),(146,Tryz.f146),(147,Tryz.f147),(148,Tryz.f148),(150,Tryz.f150),(152,Tryz.f152),(153,Tryz.f153),(156,Tryz.f156),(157,Tryz.f157),(158,Tryz.f158),(163,Tryz.f163),(164,Tryz.f164),(165,Tryz.f165),(166,Tryz.f166),(167,Tryz.f167),(168,Tryz.f168),(169,Tryz.f169),(170,Tryz.f170),(171,Tryz.f171),(172,Tryz.f172),(173,Tryz.f173),(174,Tryz.f174),(175,Tryz.f175),(176,Tryz.f176),(177,Tryz.f177),(178,Tryz.f178),(179,Tryz.f179),(182,Tryz.f182),(185,Tryz.f185),(186,Tryz.f186),(187,Tryz.f187),(188,Tryz.f188),(189,Tryz.f189),(190,Tryz.f190),(191,Tryz.f191),(192,Tryz.f192),(193,Tryz.f193),(194,Tryz.f194),(195,Tryz.f195),(196,Tryz.f196),(197,Tryz.f197),(198,Tryz.f198),(199,Tryz.f199),(200,Tryz.f200),(201,Tryz.f201),(202,Tryz.f202),(203,Tryz.f203),(204,Tryz.f204),(216,Tryz.f216),(221,Tryz.f221),(222,Tryz.f222),(224,Tryz.f224),(225,Tryz.f225),(226,Tryz.f226),(227,Tryz.f227),(229,Tryz.f229),(230,Tryz.f230),(233,Tryz.f233),(234,Tryz.f234),(236,Tryz.f236),(237,Tryz.f237),(238,Tryz.f238),(239,Tryz.f239),(242,Tryz.f242),(243,Tryz.f243),(245,Tryz.f245),(246,Tryz.f246),(247,Tryz.f247),(249,Tryz.f249),(259,Tryz.f259),(261,Tryz.f261),(262,Tryz.f262),(263,Tryz.f263),(264,Tryz.f264),(265,Tryz.f265),(266,Tryz.f266),(267,Tryz.f267),(278,Tryz.f278),(280,Tryz.f280),(281,Tryz.f281),(282,Tryz.f282),(284,Tryz.f284),(285,Tryz.f285),(286,Tryz.f286),(287,Tryz.f287),(288,Tryz.f288),(291,Tryz.f291),(303,Tryz.f303),(304,Tryz.f304),(305,Tryz.f305),(306,Tryz.f306),(307,Tryz.f307),(308,Tryz.f308),(309,Tryz.f309),(310,Tryz.f310),(311,Tryz.f311),(321,Tryz.f321),(322,Tryz.f322),(324,Tryz.f324),(325,Tryz.f325),(326,Tryz.f326),(327,Tryz.f327),(330,Tryz.f330),(336,Tryz.f336),(337,Tryz.f337),(338,Tryz.f338),(344,Tryz.f344),(365,Tryz.f365),(366,Tryz.f366),(368,Tryz.f368),(369,Tryz.f369),(370,Tryz.f370),(371,Tryz.f371),(372,Tryz.f372),(373,Tryz.f373),(376,Tryz.f376),(378,Tryz.f378),(379,Tryz.f379),(380,Tryz.f380),(381,Tryz.f381),(383,Tryz.f383),(391,Tryz.f391),(392,Tryz.f392),(396,Tryz.f396),(399,Tryz.f399),(400,Tryz.f400),(406,Tryz.f406),(407,Tryz.f407),(409,Tryz.f409),(432,Tryz.f432),(434,Tryz.f434),(437,Tryz.f437),(441,Tryz.f441),(442,Tryz.f442),(447,Tryz.f447),(458,Tryz.f458),(459,Tryz.f459),(460,Tryz.f460),(461,Tryz.f461),(462,Tryz.f462),(463,Tryz.f463),(466,Tryz.f466),(468,Tryz.f468),(469,Tryz.f469),(471,Tryz.f471),(486,Tryz.f486),(497,Tryz.f497),(498,Tryz.f498),(499,Tryz.f499),(505,Tryz.f505),(506,Tryz.f506),(507,Tryz.f507),(514,Tryz.f514),(542,Tryz.f542),(547,Tryz.f547),(548,Tryz.f548),(585,Tryz.f585),(586,Tryz.f586),(589,Tryz.f589)]
theorem afl:Nat.beq (Bc (FL.all λf=>F.jq (f.2.body.getD .skip)) 1 0) 1=true:=by kernel_rfl
theorem ae':(List.range NF).map (λi=>Bc (Nat.testBit fnM i) (Jr.get i) none)=(List.range NF).map (λi=>(FL.find? λx=>Nat.beq x.1 i).map (·.2)):=by kernel_rfl
theorem Js:Nat.blt fnM (2 ^ NF)=true:=by kernel_rfl
theorem Gv:F.Xj dm:=λf fn c hf hb=>by
 have h1:Bc (Nat.testBit fnM f) (Jr.get f) none=some fn:=hf
 have hlt:f<NF:=by
  cases e:Nat.testBit fnM f with
  |false=>rw[e,au]at h1;cases h1
  |true=>exact CE ((an _ _).1 Js) e
 have h2:=congrArg (λl=>l[f]?) ae'
 simp only[List.getElem?_map,List.getElem?_range hlt,Option.map_some]at h2
 rw[h1]at h2
 have h2:=Option.some.inj h2
 cases e:FL.find? λx=>Nat.beq x.1 f with
 |none=>rw[e]at h2;cases h2
 |some x =>
  rw[e]at h2
  have hx:=List.mem_of_find?_eq_some e
  have h3:(FL.all λf=>F.jq (f.2.body.getD .skip))=true:=by
   have:=afl
   cases e2:(FL.all λf=>F.jq (f.2.body.getD .skip))with
   |true=>rfl
   |false=>rw[e2,au]at this;cases this
  have h4:=List.all_eq_true.1 h3 x hx
  have h5:x.2=fn:=by cases h2;rfl
  rw[h5,hb]at h4
  exact h4
end Go.Proofs.MN
end
