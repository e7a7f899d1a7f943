import Derived.Test.YtiapejgiinidhaaGreatDoorMM33
set_option linter.all false
set_option maxRecDepth 100000
set_option maxHeartbeats 40000000
namespace Go.Proofs.YtiapejgiinidhaaGreatDoor
open Value renaming int→Yg,pointer→U,string→O,bool→Yl,tuple→Ym,iface→Yo,agg→Yr
open IntKind renaming u64→V,i64→Yj,u8→Yq
open Obj renaming cells→Yk
open Ending renaming returned→Yi
open Go renaming World→J,Value→Yu,Calls→Yv
open Go.Proofs.Tryz renaming prog→Yw
open Option renaming some→Z,none→Y
open Bool renaming true→Yy
open Go
namespace Kf
open Qk
def P00:Nat:=0xe0d3ee6872b5788d815be36fcce700e731a52f98a9c46b36185ca2cd81bcc234
theorem ABL:DI (Bb 0 0) 0=b32 P00:=by rw[qR];exact JF _ _ NA
def P01:Nat:=0xcc9d41e373f4652c78fd409b51910725c8899461e8dfc70d048b9633e7c55964
theorem ABK:DI (Bb 0 0) 1=b32 P01:=by rw[qR];exact JF _ _ NA
def G0:List Nat:=[0x6e679a75890464214393685973bb94c2ee520d6b981d8fb85607f1aa6d3dfe94,0xa7fd8584732a2b3e235fc8710ebf4e203d0ae4ef5b51571fab51e1a56b23c944,0x18c801101a2fddb227c956f80b9c5a74980dcda8c6cdb8b28f4fcf55f464864c,0x18a5d2ec62f3abae5094c99149edde65f8459e2dffaeb7f218fab8b0648564c6,0xba998d15444ba5c683aa896cb86e24138c4f56ef9aaf52a588ba6b423dd69666,0x48036952e08ffb097bf310568076a01e52f7abf23aa57fd5aefb223e670116b8,0x529861eb676f2d75ffff6514f5f1792a6c3dddaba9b04844e319eaa17c15bf4d,0x34d3b8c7c83784edb84d795007913f3d87d73ca175c60967b4c6e1be94b6be8a,0x44011de65fbdd0d04e00636c945822b35f3741c72b3f6b14feb91f0873a8965f,0xc8b31d6e53cd1acceb0a8dce7fe5c6f243facc9380769391201230c141ab455,0xf1f4f04246ec5990d15cc02539638c502c1ffc182ad8e668d577aaa67ba22c6d,0x9b3f35691b8b2b60076ff070a7557458efd3cfad809f45855cf2c1872af32a7,0x2ff6a63988d7e0b37054b8a6fab2eb0d3174d01b0f9be9fc8766d9a17daa8186,0x92a331af2a58f3c8d03580e3de7fd74b768377a5917c566d428d7c57a07b90b6,0x9b5b4124fc46154e69eedc8d4f50941bc10f8a5eeccf3b97bcebf95ffd9bf168,0xa7eb552c925d8ad56f123f07207b3ed1d2ac90a83b43b5056e3f4809bf809d89,0x87178fb058234d49e832d78935b9d9689fc5ef78f169800f4db4ced13b51d75e,0x3b008ac0507089141491045b9723298332b5241bc2cc9f7b3ceeb0cb98656d43,0x2ea85b349d8259490265b743f62b8b3592b40564408e4358efae729def8e614a,0x3dc12df7167877ab4ca50a943f34f4a8e0f03339d624d3bb8dada4a2b84c8c0c,0xa36aef25911456221d5064d6b1de938b7f08e222c29fb0c85346088133898f04,0x54a6907199f7201b432019d3107ff847f64ae13304418b2ad638365ff11c9477,0x1f1344b36857cf4d0b255e9f1ba86a676c05d1b5122811be81674ce0ff0db3a4,0xcfbdbff3271e28d8d0c6460be5a2509f6bd8d8de227769ee77fbde44a339521e,0x11dbaeb1ffb524bd081bd00ffa677f40df47fd0a3cc5208373839fd1cd8727a0,0x9bed322cb74985a805e0547466e3939dd669fb3d8c26c60f3b032bd361ae15a1,0xae21cc1137ec9b4a2a57fd974ebc1263217e10976dd04d5956414291cfe63158,0x2e26a97dd3be742e287654ddbeff9c5ae91779433b832d869a3e239cb3e5dfb6,0x853dd0708da9a354d6c9e48508c945128732469b806df40f275904eab6109897,0xe3e671fb1efa6ea943573b69b583c4bfac63f703bb6e64606392dcb984879e9a,0xb48c8ebdb4cf2d2aeb24e62d1b35b973f05366d901c17dfd82ef89853cda2c58,0xfab6bd990eed2fda20fd291c6024bedf69cf14edca15d765ab17a297ddc3188c,0xb017a0b815f5bcee9b90bc869c5f2bcb724c3391982d23ac9df19f5b9ea751bd,0x6c4d29adbd058c32f6f0417fa8bf8f16b0bb32e811b227c49f8be0f7a5537f19,0x6356912db97d266782a619cd9cf3397b4260e7b26a7d3793fcab1d2b86e74d2c,0x72f54adf2d3a803e8d3886a92dda1e4f729e6958da6b1d985b51a44c58fa230,0xb38ab5aa2ba3ae062a7844fe4cefb3e0cde4627ebdb7bef286e32204708c8a24,0xf6d85b2e3dc610dfdf64a30966fc647dec85b7d21632350b8aade275c677d3b8,0x3fa4a66301a9d9c0b300ac5caaa31a4433892ff4470b9c4f8e3fcd3859cc103f,0x24b4504cea20521f9173e7d94ff645ee2a1722163b31f6ec5dadd4ae4f9fbd5d,0x15fa895e309460e568bf9b485a37be7d8c5483faeeb18c446785bb9cf74996ef,0x2684c5dfbe126c45dc4fc811ba63e38aea2994b154998b15f59cc0f0a0345706,0xad38c71220bd145f1caf5ee1314f0f6c179f505fba009b640baec77ce5cbbe2f,0x9feb148c1f24be54c3f6dadae3e39a6f591b2eadbcf6de452e24705865fa1b4e,0x4dc480da14a5a3d20656b272924815f77e7e89d4253599920735bc50d9b8cb86,0xb72ee21a1cc0226b9e0462a8f384cd7c7bbecff7c9e75012e59a1ab73f1bd3e9,0xe5d0511404ac30f533ba51f1c9f8693cd37606f528c0d27d3ed40b768a55eebb,0xd5508c0732a07084c42dbe047cdb8c79305c0f74adfdf53aba3cf3aa83306e61,0xb6bf936ee11ea52f8ec0390bad5b28b1357090835f8c6428b76b6fa5fab36a04,0xee6f815efedbc5239cf8f5327d5d2d9e44c1496439b74f36207650f5c2557461,0x9be3d0cce9056aa42473a63a539753bed2ce69239657b125bce9f3d90911a044,0xd28c897bbe6a89b8a7a4f884ab4053517620e751b9822ed60eca697ac7a8b894,0x67e7b1d8dab030e8571d875807b333314671639c926ac5b1a10c49b3e02decd5,0x52413f2fa8b417376c15553b89699f643f041abd21b8dedab6a8512787303b50,0xdc391a79ab3e6d9d024aba67158e7762fce3d1ea0b5bad1c99bc18fff40e00fa,0x99fb0798ee1359dce61ecbc749e56c3279f9157e4dfa697839e706a3a011d4a4,0xdaa5dbda3a0aea451a7800fbfdf1ab7a862302a581d9812414894d7a2b6219fa,0x17029d95d5abf9a9f61eb2a9191f62df9e75032ba0b737543df83e24d8c6528a,0xabac54fa19df9833f9db60c08d90c4eaf07fc778c0d1a9c68c4ee66754e50f22,0x54374c52165246258eafdc2ae8345c34b26256d1a44bf090b3efa6ba71ee3234,0xd006a8ac2a2813745831c831d80472eb3dcfb7f787161d6a37647798a93c81e6,0x3ecfe8bbc7ef9d5eb66b5265dfbce794a3576013e97e1f0e3f4187e202eb448c,0x55349ee445ef5b960c80131c3553bf88274a1e0854a35d5599aafdaf58b9db42,0x241eaeb609c0d3903605d9ff2fe318fc3b539a87b476e4ea10569a264e2f6587,0xea460832a3d9b61b824771deb2eb744226c82771f7603909207c67605735b16e,0xb936d987e9059bf3e1bb16a9f691fa5715c8b62b37c6c6c487c4225eda070bb3,0x1e876146d08ec1fc8ed855f7114bc997de72d653335162eba7f236d7ccdc9f1e]
theorem yM:D9 (Bb 0 0) 0 (Bn 0)=G0.map b32:=by rw[qR];exact U1 _ _ _ NA
def P10:Nat:=0x3c7db44604c9403f3094f581f953399ebfc423474ea4e0d82191624564d79db4
theorem ABJ:DI (Bb 0 1) 0=b32 P10:=by rw[qQ];exact JF _ _ NA
def P11:Nat:=0xc09f3243e72233ff30cd6cd4d707115867ebb5bd6276c5c0bf57d93358c3b5c0
theorem ABH:DI (Bb 0 1) 1=b32 P11:=by rw[qQ];exact JF _ _ NA
def G1:List Nat:=[0xebc8f3e25bdef0b4d71f0c035aa3ab26a1c7b041c9a05c032fc795cca624e0d6,0xa39da65bb4d6afcae94c164c3d519c6ed68b12dc30b468f1042d1a4584a938c3,0x617d560a8e039eca5d965885e6c9d121356d04ee15eda48f79b55af8aace97f5,0x3e66a7dddd678c05c491ef9325e94197bb10578ad058f09355b2c4a7bc1a89de,0x2f69894cd6920569ce9c21290c84b69403f698a78aed2c41aaaf356684544fd9,0xe4519fbfc20e0e0e16483f668657b73000beac21058ebac009a97a6c5214b2c7,0xcf27ab714fe073f1fa406c1ce12b0f994e759c3efc90e685edb840da995f2aca,0x3615f4f906d5a7b81b4479dc7a7db878b80cf29de4054c56e24bdb7ad954487,0xc07d9e010c89bedf69e9aafa6670aff34b3df5ec8a91207cadbe25554025aec7,0xe240aec8fc9198095ed5d489b8139c16dff5e6cadc56ef2a9192d456dc7d9cfb,0x9adde8c82ede8ea8981c35badfbcce09f8dc17919d92f07af84d1188919ddb66,0x951990c1f27a45efb32b25214f4c98742a7620d86d25b21c467116d6b395b0,0x63afa50803eedcf3eda26020e9a89e4f511f66269b17519359dda061273df031,0x901358c3315c9f775f99baff36427885d5aa38fba2869146ced1b9a51c5f5a9a,0xa62618a129be42e0b6cbf749daa4208408fd2b179878a2ead21d10a310eb2bff,0xa88f5c0c425ea1a1078b3051b4cda159bb44fb294aa351d2222ea5df86b62be1,0xb88c6b2cb604ae84f684ae5833cfb54a4b18308f2e559c8873ba8728424f6af,0xfbfdfece9d4e6d9bd218d6f5c429eaaf150713a018e7c62c5490d32b4fdc0841,0xe99c994f3319f576957fbe25685bec3f2da147407b35f9741b28ee9624788399,0x46d8f259e23df8c8285e82652e025d9444796761ff11cd78238805ca4836971,0xd5c78caf1f03888b7161a8eeaccf888dd72b6a51962864e5aa1d6e5b00ba3af9,0x4169735c4240393e374aa780dd3ed70d2ed0389fcb591165884d3174980ab850,0x3556466093e2fcefe719a6316e8b521b15ab8d0f15fd23bdcd76f12387ad240b,0x160333579aa6c44e2d2bf86ea70c9cb56e536e4a5e0a38f21888051db18fbe8d,0x63b634dcf7a70f3dfd1eb92e97f42c435a4de1ea062965344f59cbd40d27fb7f,0xfc382c4e66cfbe11a0004e5fecd5419542f08fff0419f96552e62feb89587797,0xef96111aef9bd25603eaa06fcb61d7b6d5e0f6e9561eba0fd1deca6f0428a57b,0xfe133a7c5807c64459a54e06e2f2f54013c27735e267c38424a557cb33d7d011,0x7e8c8299468f13ef10e6e7c1a10802cafdad8d2cca1d7d753c1e9eeaf08142d0,0x18086e004e9c6d5b68feb3e747e1d7cbc6ed336679bcab43a049e7534a2e71d4,0xda12b3257ff5d1f078642d5b51e4d814885be65993a86707d07b5b37f3719ab9,0xb0898b0a5ea9c1a8ddb762676bbb829c1f226da7edd1ec5f1e6cc61d3094e6e6,0xd0b09db3b10fcdcbfa048cf54745796d85d0b80966e72c1c25f51f30a3bbdb52,0x5b1de555746080a910399f4ddfa76bcc0c38c52912a3b466b1a4724fa7ced111,0x2fbee0b4d33c49d87c064ca3f3a6b218677f1153efd2d07f5ba1dc71e88dd6d9,0x1cc03921f86adcf8c51265d5f00e20204daf46fafe48aeeafdec52ce7bcad90d,0xbfd43642fee075d01d9b4a30987a9626b26b09ecee58ac67419ef2cfceb49853,0x24fc3382f39698d0825a021c78819c3a995b39b9d3c1fd174118a8c7fabbf08f,0x5cc855e6592146d83e1b685a31d76ab4612110ca6f423bbf0066638b9ab25afa,0x647e76637eac7b161c8e0d2f1760ce4384359e336bdc25c579a48725863d2c34,0xeb19fb93f13a98c50d8108267d330cda4623844f7826ca2bb06767b3091bb1ea,0x6c387e434d186eadeba03c9a6818520230179ad8561b00cebbf4fa139938818d,0x2dd667c1cf8d645a856e14d14dbbd883224c762fa39032bc049ac16f4038414e,0xbc36a7c63b10bf238472cc31870e6dbf0d14705729dd45a7df699813d8f08a0c,0x6c47a5161684280b6a373fdd266b6f8c27eaee41a9828b13855c00270ec62aea,0x70304bc4884dc013d5eee3e8de02df6b5962d2e4380fadee9505d5f4101f0fb0,0xb0dc8aa2982c5059a7ee32dfbad801f4b51febd5b6527fb891e4d091b66b9ac0,0x778ec1e8b95b57e3af4e1684bd3aacf914efb8808f9e3fbe5cd38170a0e8f49c,0x4784929a742a4b51644325694f5ccce286caadd3554c8277201d360022f9576a,0xf9efccde13d3b20ce904f9c3fdc462b267a36eb34ac91e05f8b0155e9c541af5,0x2d648e1f936d3357523d3c0f91e465f832079c7ff186ba59ddb9b68edd9f68c9,0x3589354b1865a2486cc0f5308be8267c8cd130b53f082b5d747d8091968695,0xc52c51ef37f6f612a1986a1d2a6c21f43f08bf0de1e21ef2d69e50acaac90e9c,0x18563f3601ec7640d5600288309d440e809332fbbe9e54daf6f071f50ac2bfc5,0x30bd4d4453ab2a53f127b04f468b7ed9e43622350af27c8e92bbf8c99db3e55e,0x9532a1a8314f5011e7b769596df37ab9530b09fbcd6737c20e8d883c9556e49c,0x598eabefea91af3434ee2eabd63930e568d3e04400fba6c1932d5c74658bb870,0x8b08e56636e4d447355684d585f49ae369ce733b56195d15e341a058d5cfc672,0xb6ea2c66bd201dc470931af970cd8696825fd9b10d27387d1fca78ede05d1e8c,0xa4e2401cdbd84a54061e7d71136b4aa0f2753a7264f57278e2a8df691f2133f8,0x928bc8c22134e05ac931aa1267653b200091c08e8e464daf45fffbe4fd90d092,0xc4db8bb9098550e68616acafd394785434c7f887e2890837931ec2f293f3056,0x32c572786ea2a72ed9bdb167b0740be3ed5e84f79be1d7bf4624da8279e71360,0xc0d86b1453493e659e05f1137fc08e873c2923199fa846884ef80b25a4c9a748,0xda1733eedfca298a6c51fbbd64483052591a3aac6aeeed83768eb3e52a635c9f,0xfc3c643bdc5154fe6630b1df759defba2e20a64166c163364d49d77066ab260b,0xf780a123481a5a79ee97953525914a1116f5a027c7c989bcf99f8babb28121ca]
theorem AAo:D9 (Bb 0 1) 0 (Bn 0)=G1.map b32:=by rw[qQ];exact U1 _ _ _ NA
def P20:Nat:=0x6f991fbfa2712cbb415ac98ac5321849617ac9c0ed24c4114913c11ae61614e3
theorem ABG:DI (Bb 0 2) 0=b32 P20:=by rw[qP];exact JF _ _ NA
def P21:Nat:=0x16732b128e5d51c8d0e32f59c0e07d35d7315065922e60f72839b133d8a39860
theorem ABF:DI (Bb 0 2) 1=b32 P21:=by rw[qP];exact JF _ _ NA
def G2:List Nat:=[0x5ee63e406723d36e4f22df4fd9c11ba816545973493103ba8effbf5c59869700,0xa2263eb2d2d587865cd36c88c4af8ac95b9044e4d125a763c65ffaf8e37bf5ea,0x7d4a107eddda7e1eaf56dfa792362e755270146aedd2e9a823f0ff7e94dd65e7,0x3008817d9a8620da08f4dd19b3aa5b2334e4ca8abe4b1319da93fd79a154631c,0xb4c1849957e6036d319b23cd3e383b51b055750663700462df6788c38523836,0x340291489e19ad1f2b070feb8938c3fd988969699b7e2a616f0cd2c3cab28d55,0x3c3ed7ec1c02acff428609a1bde2f6f1b0b0448e73f1df3fc56ae8e710d3947a,0x5391cbea038894e4ec409f680cbda100ba7663574515e92287440c64cba0c453,0x9ee591136db6037a1a98436f06c1b45caae042a22383d4260a99d0206b371661,0x5be6171ed32fdac906331ea0e2ce050f8a7923519d3a52a6f09d9ff015bcd2c,0x77d63da16c393cdf611dc091320c569e34d0291ef0d370f41aa6109b25701f7e,0x90cb261e74e625bce2b83cce0c26dadadc5ce10f003f4e60177266a13d8628d5,0x7a59c445ec730fcaeff6ebee0e07d21fb4a4cb539aee55d365fdacd646acac39,0x5868bba16c16d4052f875952ee5bb6201136e52f87954533d7beb25f22b489ae,0xdc2ee887bdd52f1939fc7f151c7ae0bbebb02aa2dc4c71c4610ba138a5c3713e,0x995bfa71cb65c3ce71e89dd1b209c6d56dc76cd17b75071e051f4e92c56e461c,0xab2d3b66688d854bf031d43297fb591d4ebe0039e7fce1a2d3728965c2797df1,0xd9c2d24faa99c9690b42ee64d08895c7248535db5927ec2fb81aa781948fc6bc,0x59db82af972e88f33ea0fc2f716ed60ddb5267b56dcbd18b7fe9ce8b1adcf0a6,0x9ce65071a6a66622c2dc5f288142dc4c3b8d6ae088637e6322fe91f4763c21ea,0xb2424a449cf5605e863c6955b8896f26bd675d779d3212af3dc66c79e31944b8,0x63884db0f18be833b81a2a183705ba57a1ef7d78bf6e312b3d8562fcde17d53b,0x9cfe170ede5e66477d56314608f49b3c7add928f38fdcee9665fca3e2c4846a6,0xe7337ec1cc4911a4f3971015d2b37f7c431a3f6dca9bf2370c3e255d6a68bc8f,0x65e08baba6d9ceb2744918318fda9a161cf08cc59b582cddc99d4e9bf95c99cd,0x4612ad3477cb5ea1ce7a0f90d06e956868b35b836da4c585af16f683decf0b72,0xcf0a142eb4cd485456bedfdfbbcac346864b779341d7fab5b94a87421e892409,0x95fa821e132614173cc9d9ce6e51594df5db62e41d1691885ef631e58e081de6,0x9721154c34213eddb8cfcb70a18d9a6223f5bd4b50a23bc7acfd052e9131c87b,0x1fa86eb2f471b576c0c34d1c73563701f5d8c37d72fe9d33fa42643560110972,0x435aa0abd0e4cdff62772224998df6cac5f9864cd24c49efe74c7cba822dedca,0xc3728b49bac5761f3796707cbe9540c6b6a05c52997daaa73b8e457d1fd892f3,0x5debc934ca4dc92e714ebe81a08a726ec85431ef95501be0d2bf6a4a752a0b98,0x1c9946dc8064bf6e8009be69d7999f52860deb97f8ffa42e885d2f49235107dc,0x842cf2d3cc62c207657e56705b5290ead62c7695b339badc1cfb9539456205f2,0x679bb0a5a89f84492b5013877e9e3a79cefa217e43354750c63cae5152307a6e,0x3b0053a594664d4124dbfacd5a0131768da79739852d3b584cf4eacd2a9df244,0x5c1c5c6b90dd6e1fe3c8d6f6d3be6d86ec682f166cf149fd321984dd1f1c6e93,0x5a4bd1ca5afe7e39eda97833f10aaa32b33a3a4616bf4ff8fbfa99b7bdb3c117,0x3da1bb4b6afe9bdc0e50e9b46ca4cbea6e483bfc31c7417bd1baf159b99ea677,0x4be1e0697d74100179494751bf807d4903e958045c4579448ceb8df0282a0b40,0x10fcbece3db625223c849d5f687f9b31d593d182542b9b119c78115bdf1e634d,0x7f3f169ae13823706babef8a8c9a48e4e05117ed0a9040e5394cac4676a428c7,0xaa0fcc5e6f36a70717ecabac987650eb94a873b8d7fc0b23e04ebcff53c9d2d,0xab02d3dcc6d97e3e582114014e726397896a587248a2c93887c61fd62d1136c4,0x44c482219d2e0afad560af40e4b49eb162425038a44544ab4b935a57126c9ebb,0x9d59e87c28053bbdef75fcb804d31cf1ffea5b3ad1b4fae46bae824e53279df9,0xbfd02eb16b9d524f107eeeaddd3d8ebc74941d77d15084d1bcaa1072a410f259,0x9bdbc748509f7ceefd7bc427188d4433fecf36a5e00fec7de58be363d63e1630,0x43959f3377bf8483cdab3a3cde721c70438d3182752b48b993cbc82ac7aa8220,0xec4cd60a62de81ef4acf552186714bdd690dcf290bdf177bfd8bf5a5d6eb6bcc,0x126286bb598693763e5d42b150847832b309bdd713e2a7c82cb50585da986298,0xa08bfd3159bc17d9e713223aa9015d3c91bbb8c5be5311842e6f350a4d13d04e,0xf6de599c8028be6c0d4e9122bab3bac82c3755ac451155e09f3d682929cbeea2,0x3af057dceb6d45bdd45c33665a7d60c6df08d5fa92321d3499aecbecc112a97b,0x381eae7f01b43ecc922ea8004e1638bf05543a9127a66b5730c8c507dd48719e,0x157676b1b64c13d9e1618fe63f991d9929006a129a476c3287c3fe2aadf2f04c,0x1a0ff86ba61ae33345aa549f8aac085108d7d5966c840e7274af983161b20291,0xa40fa6044c425e4846b2d24744ec54e03e08e855c37bbc0500bbfa9509a4bfe7,0x2e5a29be725527c38ced8ceb83f317a9c00141d34922dfa1295eeae82a53ad65,0xb9143117772e5323d9be85c00246d541be3024257b332ed295faa9b927cd4a82,0x70461bfcae70536b05d4289289da42ec222b273358d437e5d61f8acde8f01803,0x33361f6248da75250ed161c480c52e4fc6ac871b6db217151f2e759cdbaeb989,0x70d50f52f2c41ccc1c7299791a3c2acfe123688840283750660aec3e6c638acf,0x676aa72aefe11f68ccd52107ee4db1ca9a72d0890fab94d657518578e0fd86f4,0x6d642e4bf22d8439dc6f38aeec1e4260dcf2bae93d4ef83c9a3368c8511b7a13,0xe342684a46ecee53619ac67f0da9a7193ef11617db0d7e2a3836e150dbf73988]
theorem AAn:D9 (Bb 0 2) 0 (Bn 0)=G2.map b32:=by rw[qP];exact U1 _ _ _ NA
theorem yO (x:List UInt8):rootOf [x]=Aa [108,101,97,102] [x]:=rfl
theorem qj (x y:List UInt8):rootOf [x,y]=Aa [110,111,100,101] [Aa [108,101,97,102] [x],Aa [108,101,97,102] [y]]:=rfl
theorem yN (x y z:List UInt8):rootOf [x,y,z]=Aa [110,111,100,101] [Aa [110,111,100,101] [Aa [108,101,97,102] [x],Aa [108,101,97,102] [z]],Aa [110,111,100,101] [Aa [108,101,97,102] [y],Aa [110,111,110,101] []]]:=rfl
theorem nO (S:List UInt8) (t:Nat):Ew S t 1=[EM S 0%t]:=rfl
theorem nN (S:List UInt8) (t:Nat):Ew S t 2=[EM S 0%t,EM S 8%t]:=rfl
theorem none_:Aa [110,111,110,101] []=b32 0x99c8ef872bdd83d0ef04efa8a413b6cfeebe7db9fc3eaa3ff79adabefc7a2c5f:=BJ _ _ NA
def rg0:List (List UInt8):=[AV 0++b32 P00,AV 1++b32 P01]
theorem AAx:Bj 0 0=rg0:=by show [AV 0++DI (Bb 0 0) 0,AV 1++DI (Bb 0 0) 1]=_;rw[ABL,ABK];rfl
theorem AB9:Aa [108,101,97,102] [AV 0++b32 P00]=b32 0xbc81ae6fdebc681a5b9ca05c9b1d4202555996e6a438532e7a37cbe1b98fcb92:=BJ _ _ NA
def F0:Nat:=0x4d21bf01b5e88861a242f90735a60a9e3e4c0e162b26c1de220453aca57c3cbb
theorem AA1:Aa [108,101,97,102] [AV 1++b32 P01]=b32 F0:=BJ _ _ NA
def T0:Nat:=0x63a50e8ee9250d930293f66777bbb4f53ef1f687bcfcc05fd8af13d956182066
theorem rt0:rootOf (Bj 0 0)=b32 T0:=by rw[AAx,rg0,qj,AB9,AA1];exact BJ _ _ NA
theorem pv0:Am (Bj 0 0) [(1-1)/5]=[b32 F0]:=by rw[FK _ ACF,AAx,rg0];show [Aa [108,101,97,102] [AV 1++b32 P01]]=_;rw[AA1]
def rg1:List (List UInt8):=[AV 0++b32 P10,AV 1++b32 P11]
theorem AAw:Bj 0 1=rg1:=by show [AV 0++DI (Bb 0 1) 0,AV 1++DI (Bb 0 1) 1]=_;rw[ABJ,ABH];rfl
theorem AB8:Aa [108,101,97,102] [AV 0++b32 P10]=b32 0x9b01de61e1187691c917a9ccbd2fdbd5d24adea7ce12eff9b9827f72e69aa2f3:=BJ _ _ NA
def F1:Nat:=0x89034673a911778e0dfdb201e91e62b2a71252ca32c273503b773a5abd044447
theorem AA0:Aa [108,101,97,102] [AV 1++b32 P11]=b32 F1:=BJ _ _ NA
def T1:Nat:=0x6c62dbb47232bec8007725f6cef76d40cb17f4396b9d02e76ba4bd381fe1c7a6
theorem rt1:rootOf (Bj 0 1)=b32 T1:=by rw[AAw,rg1,qj,AB8,AA0];exact BJ _ _ NA
theorem pv1:Am (Bj 0 1) [(1-1)/5]=[b32 F1]:=by rw[FK _ ACF,AAw,rg1];show [Aa [108,101,97,102] [AV 1++b32 P11]]=_;rw[AA0]
def rg2:List (List UInt8):=[AV 0++b32 P20,AV 1++b32 P21]
theorem AAv:Bj 0 2=rg2:=by show [AV 0++DI (Bb 0 2) 0,AV 1++DI (Bb 0 2) 1]=_;rw[ABG,ABF];rfl
theorem AB7:Aa [108,101,97,102] [AV 0++b32 P20]=b32 0xcdb99a7c6dc522e67e08d9e76eeafb29637808787f4bcd7252d1b7ece9b539a:=BJ _ _ NA
def F2:Nat:=0x49880ad8b75512af43f8a36e70af1a02c9c7ea984056a8a126781409affb57f6
theorem AAz:Aa [108,101,97,102] [AV 1++b32 P21]=b32 F2:=BJ _ _ NA
def T2:Nat:=0x580f24c7d044624884a31638ff050fdf033fcff12f363fc365597cff1b5c9a71
theorem rt2:rootOf (Bj 0 2)=b32 T2:=by rw[AAv,rg2,qj,AB7,AAz];exact BJ _ _ NA
theorem pv2:Am (Bj 0 2) [(1-1)/5]=[b32 F2]:=by rw[FK _ ACF,AAv,rg2];show [Aa [108,101,97,102] [AV 1++b32 P21]]=_;rw[AAz]
def zC:Sl:=⟨0,0,G0.map b32,[b32 F0]⟩
theorem qD:Dq 0 1 [9] 0=zC:=AJi
theorem ABb:Aa [108,101,97,102] [zC.bytes]=b32 0x1be26f0ba6818b9a105bbe355bc464e09040f1fb609706d09e08f538a6b6695c:=BJ _ _ NA
def wI:Pt:=⟨b32 T0,10,1,5,2⟩
theorem rO:G5 0 0 ([9].getD 0 0)=wI:=by unfold G5;rw[rt0];rfl
theorem ABf:Aa [108,101,97,102] [Hm wI]=b32 0x36d55aad19b8eb5df9ed886be96ed509242e8e3e40243b85d1620ccadebecd89:=BJ _ _ NA
def C0:Nat:=0x1be26f0ba6818b9a105bbe355bc464e09040f1fb609706d09e08f538a6b6695c
def D0:Nat:=0x36d55aad19b8eb5df9ed886be96ed509242e8e3e40243b85d1620ccadebecd89
theorem ABX:ED 0 [9] 1=[zC.bytes]:=by show [(Dq 0 1 [9] 0).bytes]=_;rw[qD]
theorem ABN:CG 0 [9] 1=[wI]:=by show [G5 0 0 ([9].getD 0 0)]=_;rw[rO]
theorem cr0:KD 0 [9]=b32 C0:=by show rootOf (ED 0 [9] 1)=_;rw[ABX,yO,ABb];rfl
theorem AA3:GR 0 [9]=b32 D0:=by show rootOf ((CG 0 [9] 1).map Hm)=_;rw[ABN];show rootOf [Hm wI]=_;rw[yO,ABf];rfl
def Q0:Nat:=0x86e31e41e74a13af1d2bf0d6a6844d8e5e6464475c3a949bac11e60bca1be313
theorem cs0:DQ (b32 C0) (b32 D0) (Bn 0) 10 1 3=b32 Q0:=BJ _ _ NA
def B0:Nat:=0x73b081bc02592953106dd485a1abacf5547fc58d4465ae5ff9b887a1f7702e6c
theorem bk0:Ed (b32 Q0) 0=b32 B0:=BJ _ _ NA
theorem u00:EM (b32 Q0) 0=8336305554756020563:=by show Fz 0 [(Ed (b32 Q0) 0).getD 0 0,(Ed (b32 Q0) 0).getD 1 0,(Ed (b32 Q0) 0).getD 2 0,(Ed (b32 Q0) 0).getD 3 0,(Ed (b32 Q0) 0).getD 4 0,(Ed (b32 Q0) 0).getD 5 0,(Ed (b32 Q0) 0).getD 6 0,(Ed (b32 Q0) 0).getD 7 0]=_;rw[bk0];kernel_rfl
theorem Oh:Ct.leastN (Ca [9]) 1 (1+2%6)=1∧Ct.leastE (Ca [9]) 1 (1+2%6)=0:=by have h:Ca [9]=10:=ND;rw[h];exact⟨NA,NA⟩
theorem qN:DQ (KD 0 [9]) (GR 0 [9]) (Bn 0) (Ca [9]) 1 (1+2%6)=b32 Q0:=by rw[cr0,AA3];exact cs0
theorem cn0:ax 0 2 [9]=[3]:=by unfold ax;rw[qN,Oh.1,nO,u00,show Ca [9]=10 by decide]
theorem sc0:uk 0 2 1 1 [9] [0]:=by refine⟨rfl,ND,ND,ND,ND,ND,ND,ND,ND,Oh.2,by rw[Oh.1];decide,by rw[Oh.1];decide,fun i hi=>?_,by rw[Oh.1];rfl,fun j hj=>?_,ND⟩;(rw[Oh.1] at hi;rw[qN];match i,hi with|0,_=>show J9 _ (EM (b32 Q0) 0);rw[u00];decide|i+1,hi=>exact absurd hi KA);rw[cn0];match j,hj with|0,_=>exact⟨ND,ND,ND,ND⟩|j+1,hj=>exact absurd (show j+1<1 from hj) KA
def vQ:Sl:=⟨0,0,G0.map b32,[b32 F0]⟩
theorem yz:Dq 0 1 [1,2,3] 0=vQ:=AJi
theorem ABa:Aa [108,101,97,102] [vQ.bytes]=b32 0x1be26f0ba6818b9a105bbe355bc464e09040f1fb609706d09e08f538a6b6695c:=BJ _ _ NA
def rP:Pt:=⟨b32 T0,2,1,5,2⟩
theorem zX:G5 0 0 ([1,2,3].getD 0 0)=rP:=by unfold G5;rw[rt0];rfl
theorem ABe:Aa [108,101,97,102] [Hm rP]=b32 0xd45e4d502b1e82caf4b647c89be00de2f1dd214a3ebd5d056c342375dbf55504:=BJ _ _ NA
def zB:Sl:=⟨2,0,G1.map b32,[b32 F1]⟩
theorem qB:Dq 0 1 [1,2,3] 1=zB:=by show Sl.mk _ _ (D9 (Bb 0 1) 0 (Bn 0)) (Am (Bj 0 1) [(1-1)/5])=_;rw[AAo,pv1];rfl
theorem ABZ:Aa [108,101,97,102] [zB.bytes]=b32 0xe85fc6ff466c515546ef46d91ca6d331f7622a4c75568c91a279feed683198bb:=BJ _ _ NA
def wH:Pt:=⟨b32 T1,3,1,5,2⟩
theorem rM:G5 0 1 ([1,2,3].getD 1 0)=wH:=by unfold G5;rw[rt1];rfl
theorem ABd:Aa [108,101,97,102] [Hm wH]=b32 0xf20db15ca65be32c1b8b767f493cfbd933568070b7def3e09b767093de3f976b:=BJ _ _ NA
def zA:Sl:=⟨5,0,G2.map b32,[b32 F2]⟩
theorem pz:Dq 0 1 [1,2,3] 2=zA:=by show Sl.mk _ _ (D9 (Bb 0 2) 0 (Bn 0)) (Am (Bj 0 2) [(1-1)/5])=_;rw[AAn,pv2];rfl
theorem ABY:Aa [108,101,97,102] [zA.bytes]=b32 0x4bd2bd67e8e16da206cf5ff690246b8967f379f8de6be5fd982ae5fc59501131:=BJ _ _ NA
def wG:Pt:=⟨b32 T2,4,1,5,2⟩
theorem rJ:G5 0 2 ([1,2,3].getD 2 0)=wG:=by unfold G5;rw[rt2];rfl
theorem ABc:Aa [108,101,97,102] [Hm wG]=b32 0xcfedc1d473f61c3c951df44047f6f0a8808d0c686e9f260f132505158c95bcdd:=BJ _ _ NA
theorem nsa:Aa [110,111,100,101] [b32 0x1be26f0ba6818b9a105bbe355bc464e09040f1fb609706d09e08f538a6b6695c,b32 0x4bd2bd67e8e16da206cf5ff690246b8967f379f8de6be5fd982ae5fc59501131]=b32 0x33517ccf6c05d6ef35cad0b8c0957b797a0933e8a98771ce83af5e29d7c6bfc6:=BJ _ _ NA
theorem nsb:Aa [110,111,100,101] [b32 0xe85fc6ff466c515546ef46d91ca6d331f7622a4c75568c91a279feed683198bb,b32 0x99c8ef872bdd83d0ef04efa8a413b6cfeebe7db9fc3eaa3ff79adabefc7a2c5f]=b32 0x4303ff3f1cc5f3680691d7e1adfc81b869e1bce7adfa867690de7affb1e52527:=BJ _ _ NA
theorem nsc:Aa [110,111,100,101] [b32 0x33517ccf6c05d6ef35cad0b8c0957b797a0933e8a98771ce83af5e29d7c6bfc6,b32 0x4303ff3f1cc5f3680691d7e1adfc81b869e1bce7adfa867690de7affb1e52527]=b32 0xd04426f6a4f6f8b9556edfeb96157e8131c0948cb41a5704a41ca896a4d12951:=BJ _ _ NA
theorem npa:Aa [110,111,100,101] [b32 0xd45e4d502b1e82caf4b647c89be00de2f1dd214a3ebd5d056c342375dbf55504,b32 0xcfedc1d473f61c3c951df44047f6f0a8808d0c686e9f260f132505158c95bcdd]=b32 0x9b1d9aa5ba3bfe05f6d69dc626347e45aba3e43ecf589ee966f58f54a554e886:=BJ _ _ NA
theorem npb:Aa [110,111,100,101] [b32 0xf20db15ca65be32c1b8b767f493cfbd933568070b7def3e09b767093de3f976b,b32 0x99c8ef872bdd83d0ef04efa8a413b6cfeebe7db9fc3eaa3ff79adabefc7a2c5f]=b32 0x175b8b6508d249f3a9676033d5820ee9331820ff6cba47621e424a2b09679fb7:=BJ _ _ NA
theorem npc:Aa [110,111,100,101] [b32 0x9b1d9aa5ba3bfe05f6d69dc626347e45aba3e43ecf589ee966f58f54a554e886,b32 0x175b8b6508d249f3a9676033d5820ee9331820ff6cba47621e424a2b09679fb7]=b32 0x6f848e0ed3d561621d9db5506cf5bb54f2ffb566c6204f59bb2e19fddf966402:=BJ _ _ NA
def C1:Nat:=0xd04426f6a4f6f8b9556edfeb96157e8131c0948cb41a5704a41ca896a4d12951
def D1:Nat:=0x6f848e0ed3d561621d9db5506cf5bb54f2ffb566c6204f59bb2e19fddf966402
theorem ABW:ED 0 [1,2,3] 3=[vQ.bytes,zB.bytes,zA.bytes]:=by show [(Dq 0 1 [1,2,3] 0).bytes,(Dq 0 1 [1,2,3] 1).bytes,(Dq 0 1 [1,2,3] 2).bytes]=_;rw[yz,qB,pz]
theorem ABM:CG 0 [1,2,3] 3=[rP,wH,wG]:=by show [G5 0 0 ([1,2,3].getD 0 0),G5 0 1 ([1,2,3].getD 1 0),G5 0 2 ([1,2,3].getD 2 0)]=_;rw[zX,rM,rJ]
theorem cr1:KD 0 [1,2,3]=b32 C1:=by show rootOf (ED 0 [1,2,3] 3)=_;rw[ABW,yN,ABa,ABZ,ABY,none_,nsa,nsb,nsc];rfl
theorem AA2:GR 0 [1,2,3]=b32 D1:=by show rootOf ((CG 0 [1,2,3] 3).map Hm)=_;rw[ABM];show rootOf [Hm rP,Hm wH,Hm wG]=_;rw[yN,ABe,ABd,ABc,none_,npa,npb,npc];rfl
def Q1:Nat:=0x9615c2bcaea5cc2a72fc54887b643fee60d6ef1fc6eaaa54f85ca9ae665de428
theorem cs1:DQ (b32 C1) (b32 D1) (Bn 0) 9 1 4=b32 Q1:=BJ _ _ NA
def B1:Nat:=0x784be91ad20ceec190670db0357f9b0e3a6eacbfd2700951b343be53cc712817
theorem bk1:Ed (b32 Q1) 0=b32 B1:=BJ _ _ NA
theorem u10:EM (b32 Q1) 0=8668278209207135937:=by show Fz 0 [(Ed (b32 Q1) 0).getD 0 0,(Ed (b32 Q1) 0).getD 1 0,(Ed (b32 Q1) 0).getD 2 0,(Ed (b32 Q1) 0).getD 3 0,(Ed (b32 Q1) 0).getD 4 0,(Ed (b32 Q1) 0).getD 5 0,(Ed (b32 Q1) 0).getD 6 0,(Ed (b32 Q1) 0).getD 7 0]=_;rw[bk1];kernel_rfl
theorem u11:EM (b32 Q1) 8=10405300514525780750:=by show Fz 0 [(Ed (b32 Q1) 0).getD 8 0,(Ed (b32 Q1) 0).getD 9 0,(Ed (b32 Q1) 0).getD 10 0,(Ed (b32 Q1) 0).getD 11 0,(Ed (b32 Q1) 0).getD 12 0,(Ed (b32 Q1) 0).getD 13 0,(Ed (b32 Q1) 0).getD 14 0,(Ed (b32 Q1) 0).getD 15 0]=_;rw[bk1];kernel_rfl
theorem Og:Ct.leastN (Ca [1,2,3]) 1 (1+3%6)=2∧Ct.leastE (Ca [1,2,3]) 1 (1+3%6)=0:=by have h:Ca [1,2,3]=9:=ND;rw[h];exact⟨NA,NA⟩
theorem qM:DQ (KD 0 [1,2,3]) (GR 0 [1,2,3]) (Bn 0) (Ca [1,2,3]) 1 (1+3%6)=b32 Q1:=by rw[cr1,AA2];exact cs1
theorem cn1:ax 0 3 [1,2,3]=[3,8]:=by unfold ax;rw[qM,Og.1,nN,u10,u11,show Ca [1,2,3]=9 by decide]
theorem sc1:uk 0 3 7 3 [1,2,3] [1,2]:=by refine⟨rfl,ND,ND,ND,ND,ND,ND,ND,ND,Og.2,by rw[Og.1];decide,by rw[Og.1];decide,fun i hi=>?_,by rw[Og.1];rfl,fun j hj=>?_,ND⟩;(rw[Og.1] at hi;rw[qM];match i,hi with|0,_=>show J9 _ (EM (b32 Q1) 0);rw[u10];decide|1,_=>show J9 _ (EM (b32 Q1) 8);rw[u11];decide|i+2,hi=>exact absurd hi KA);rw[cn1];match j,hj with|0,_=>exact⟨ND,ND,ND,ND⟩|1,_=>exact⟨ND,ND,ND,ND⟩|j+2,hj=>exact absurd (show j+2<2 from hj) KA
end Kf
open Go Go.RowKit Go.Shelf
theorem cU (x:Qn) (tn:Nat) (wts:List Nat) (i:Nat) (hd:x.dg=Bn tn) (hr:x.r=1):bN x (Ka tn wts i) where
 r32:=Sh _
 l0:=by show 0<5;decide
 k1:=by show 1≤2;decide
 k2:=by show 2≤64;decide
 f1:=by show 1≤x.r;omega
 ii:=by show (1-1)/5=(x.r-1)/5;rw[hr]
 ik:=by show (1-1)/5<2;decide
 n67:=H6 tn i 1
 s32:=U4 tn i 1
 ask:=fun W Ap cp h1 h2=>by
  have e:(Ka tn wts i).lp=[Fa (MG 1 (DI (Bb tn i) 1))]:=by
   show Am (Bj tn i) [(1-1)/5]=_
   rw[FK _ ACF];rfl
  rw[e] at h1 h2⊢;rw[hd,show JD (Ka tn wts i).lw (Bn tn)=DI (Bb tn i) 0 from rC _ _ _ (Cc tn)];exact nz (DI (Bb tn i) 0) (Fa (MG 1 (DI (Bb tn i) 1))) Ap cp W (BS _ _) h1 h2 (BS _ _)
theorem yc (l:List Nat):∀s∈l.map Qk.b32,s.length=32:=fun s hs=>by
 obtain⟨n,_,rfl⟩:=ANU.1 hs;rfl
theorem TW {α:Type} (o:Option (List α)) (h:o.isSome=Yy):o=Z (o.getD []):=by cases o with|none=>(cases h)|some x=>rfl
def qu:Option Full.CW→List (List (Nat×Full.CW))
 |some (.revs xs)=>xs
 |_=>[]
namespace Kf
open Qk
def oV:Rv:=⟨0,0,0,G0.map b32,[b32 F0],b32 T0,10,1,5,2⟩
def oU:Rv:=⟨1,2,0,G1.map b32,[b32 F1],b32 T1,3,1,5,2⟩
def oQ:Rv:=⟨2,5,0,G2.map b32,[b32 F2],b32 T2,4,1,5,2⟩
theorem qa:Ka 0 [9] 0=oV:=by unfold Ka;rw[qD,rO];rfl
theorem qZ:Ka 0 [1,2,3] 1=oU:=by unfold Ka;rw[qB,rM];rfl
theorem qY:Ka 0 [1,2,3] 2=oQ:=by unfold Ka;rw[pz,rJ];rfl
theorem tF (r:Rv) (n m:Nat) (h1:r.L<18446744073709551616) (h2:r.i<18446744073709551616) (Ye:List Nat) (hG:Ye.length=67) (e1:r.lw=Ye.map b32) (F:Nat) (e2:r.lp=[b32 F]) (h3:(Hy r).length=n) (h4:n<30000) (h5:(Ab (D4 r.i r.lw r.lp)).length=m) (h6:m<30000) (h7:Pt.ok ⟨r.r,r.w,r.f,r.l,r.k⟩):OH r where
 L64:=h1
 i64:=h2
 w0:=by rw[e1,AM8,hG];decide
 w67:=by rw[e1,AM8,hG];decide
 p16:=by rw[e2];exact ANK rfl
 sw:=by rw[e1];exact yc Ye
 sp:=by rw[e2];exact yc [F]
 l1:=by rw[h3];exact h4
 l2:=by rw[h5];exact h6
 pt:=h7
theorem zx:OH oV:=tF oV 2327 2321 ND ND G0 rfl rfl F0 rfl NA ND NA ND ⟨rfl,ND,ND,ND,ND,ND⟩
theorem zw:OH oU:=tF oU 2330 2321 ND ND G1 rfl rfl F1 rfl NA ND NA ND ⟨rfl,ND,ND,ND,ND,ND⟩
theorem zu:OH oQ:=tF oQ 2330 2321 ND ND G2 rfl rfl F2 rfl NA ND NA ND ⟨rfl,ND,ND,ND,ND,ND⟩
def Lv:Qn:=⟨b32 D0,Bn 0,Ab (O9 (b32 C0) 10 [oV] [0] [] []),1,1,1,3,640,b32 C0,10,[oV],[0],[],[]⟩
def Lu:Qn:=⟨b32 D1,Bn 0,Ab (O9 (b32 C1) 9 [oU,oQ] [1,2] [b32 C0,b32 0x99c8ef872bdd83d0ef04efa8a413b6cfeebe7db9fc3eaa3ff79adabefc7a2c5f] [b32 0xd45e4d502b1e82caf4b647c89be00de2f1dd214a3ebd5d056c342375dbf55504,b32 0x99c8ef872bdd83d0ef04efa8a413b6cfeebe7db9fc3eaa3ff79adabefc7a2c5f]),3,1,1,4,640,b32 C1,9,[oU,oQ],[1,2],[b32 C0,b32 0x99c8ef872bdd83d0ef04efa8a413b6cfeebe7db9fc3eaa3ff79adabefc7a2c5f],[b32 0xd45e4d502b1e82caf4b647c89be00de2f1dd214a3ebd5d056c342375dbf55504,b32 0x99c8ef872bdd83d0ef04efa8a413b6cfeebe7db9fc3eaa3ff79adabefc7a2c5f]⟩
def rs0:List (Nat×Full.CW):=(Full.Fw Lv.by_).getD []
theorem rd0:Full.Fw Lv.by_=Z rs0:=TW _ NA
theorem ci0:Full.SN rs0 Lv.rt Lv.sw Lv.rvs Lv.coins Lv.ls Lv.lp where
 pp:=by kernel_rfl
 sp:=by kernel_rfl
 rt:=by kernel_rfl
 cn:=by kernel_rfl
 sw:=by kernel_rfl
 rv:=⟨qu (Full.look rs0 4),NA,NA,fun j hj=>by
  match j,hj with
  |0,_=>exact⟨NA,NA,NA,NA,NA,NA,NA,NA,NA,NA,NA,NA,NA,NA⟩
  |j+1,hj=>exact absurd hj (by simp[Lv])⟩
def rs1:List (Nat×Full.CW):=(Full.Fw Lu.by_).getD []
theorem rd1:Full.Fw Lu.by_=Z rs1:=TW _ NA
theorem ci1:Full.SN rs1 Lu.rt Lu.sw Lu.rvs Lu.coins Lu.ls Lu.lp where
 pp:=by kernel_rfl
 sp:=by kernel_rfl
 rt:=by kernel_rfl
 cn:=by kernel_rfl
 sw:=by kernel_rfl
 rv:=⟨qu (Full.look rs1 4),NA,NA,fun j hj=>by
  match j,hj with
  |0,_=>exact⟨NA,NA,NA,NA,NA,NA,NA,NA,NA,NA,NA,NA,NA,NA⟩
  |1,_=>exact⟨NA,NA,NA,NA,NA,NA,NA,NA,NA,NA,NA,NA,NA,NA⟩
  |j+2,hj=>exact absurd hj (by simp[Lu])⟩
theorem zn:Am (ED 0 [1,2,3] 3) [1,2]=Lu.ls:=by rw[ABW];show [Aa [108,101,97,102] [vQ.bytes],Aa [110,111,110,101] []]=_;rw[ABa,none_];rfl
theorem zo:Am ((CG 0 [1,2,3] 3).map Hm) [1,2]=Lu.lp:=by rw[ABM];show [Aa [108,101,97,102] [Hm rP],Aa [110,111,110,101] []]=_;rw[ABe,none_];rfl
theorem zL:NT Lv=b32 Q0:=cs0
theorem qO:NT Lu=b32 Q1:=cs1
theorem pu:QT Lv:=⟨fun j hj=>by
 obtain rfl:j=0:=by have:j<1:=hj;omega
 exact zx,fun W A1 c1 A2 c2 A3 c3 h1 k1 h2 k2 h3 k3=>by
 have h:=qi (Hy oV) A1 A2 A3 c1 c2 c3 W h1 k1 h2 k2 (by have:=zx.l1;omega);rw[show Fa (Hy oV)=b32 C0 from ABb] at h;exact h⟩
theorem ze:QV Lv:=⟨pu.1,fun W A1 c1 A2 c2 A3 c3 h1 k1 h2 k2 h3 k3=>by
 have h:=qi (GU oV) A1 A2 A3 c1 c2 c3 W h1 k1 h2 k2 (ANK NA);rw[show Fa (GU oV)=b32 D0 from ABf] at h;exact h⟩
theorem pq:QT Lu:=⟨fun j hj=>by
 match j,hj with
 |0,_=>exact zw
 |1,_=>exact zu
 |j+2,hj=>exact absurd (show j+2<2 from hj) KA,fun W A1 c1 A2 c2 A3 c3 h1 k1 h2 k2 h3 k3=>by
 have h:=qh (Hy oU) (Hy oQ) _ _ A1 A2 A3 c1 c2 c3 W h1 k1 h2 k2 (by have:=zw.l1;omega) (by have:=zu.l1;omega) h3 k3 rfl rfl;rw[show Fa (Hy oU)=b32 0xe85fc6ff466c515546ef46d91ca6d331f7622a4c75568c91a279feed683198bb from ABZ,show Fa (Hy oQ)=b32 0x4bd2bd67e8e16da206cf5ff690246b8967f379f8de6be5fd982ae5fc59501131 from ABY] at h;rw[show Aa [110,111,100,101] [b32 C0,b32 0x4bd2bd67e8e16da206cf5ff690246b8967f379f8de6be5fd982ae5fc59501131]=_ from nsa,nsb,nsc] at h;exact h⟩
theorem za:QV Lu:=⟨pq.1,fun W A1 c1 A2 c2 A3 c3 h1 k1 h2 k2 h3 k3=>by
 have h:=qh (GU oU) (GU oQ) _ _ A1 A2 A3 c1 c2 c3 W h1 k1 h2 k2 (ANK NA) (ANK NA) h3 k3 rfl rfl;rw[show Fa (GU oU)=b32 0xf20db15ca65be32c1b8b767f493cfbd933568070b7def3e09b767093de3f976b from ABd,show Fa (GU oQ)=b32 0xcfedc1d473f61c3c951df44047f6f0a8808d0c686e9f260f132505158c95bcdd from ABc] at h;rw[npa,npb,npc] at h;exact h⟩
theorem AAm:OC Lv:=⟨Cc 0,ND,fun j hj=>by
 obtain rfl:j=0:=by have:j<1:=hj;omega
 show bN Lv oV
 rw[←qa];exact cU Lv 0 [9] 0 rfl rfl⟩
theorem AAl:OC Lu:=⟨Cc 0,ND,fun j hj=>by
 match j,hj with
 |0,_=>
  show bN Lu oU
  rw[←qZ];exact cU Lu 0 [1,2,3] 1 rfl rfl
 |1,_=>
  show bN Lu oQ
  rw[←qY];exact cU Lu 0 [1,2,3] 2 rfl rfl
 |j+2,hj=>exact absurd (show j+2<2 from hj) KA⟩
theorem v00:EM (NT Lv) (8*0)=8336305554756020563:=by rw[zL];exact u00
theorem v10:EM (NT Lu) (8*0)=8668278209207135937:=by rw[qO];exact u10
theorem v11:EM (NT Lu) (8*1)=10405300514525780750:=by rw[qO];exact u11
theorem AAQ:QW Lv where
 n0:=by decide
 n4:=by decide
 sw0:=by decide
 sw64:=by decide
 uy:=by decide
 s64:=by decide
 rt:=ANK rfl
 pt:=ANK rfl
 dg:=by show (Bn 0).length≤1000;rw[Cc];decide
 takes:=fun i hi=>by
  obtain rfl:i=0:=by have:i<1:=hi;omega
  rw[v00];decide
 p64:=fun j hj=>by
  obtain rfl:j=0:=by have:j<1:=hj;omega
  decide
 dist:=fun i j h1 h2=>by have:j<1:=h2;omega
 falls:=fun i hi=>by
  obtain rfl:i=0:=by have:i<1:=hi;omega
  refine⟨0,ND,rfl,?_⟩;rw[v00];decide
theorem AAP:QW Lu where
 n0:=by decide
 n4:=by decide
 sw0:=by decide
 sw64:=by decide
 uy:=by decide
 s64:=by decide
 rt:=ANK rfl
 pt:=ANK rfl
 dg:=by show (Bn 0).length≤1000;rw[Cc];decide
 takes:=fun i hi=>by
  match i,hi with
  |0,_=>
   rw[v10];decide
  |1,_=>
   rw[v11];decide
  |i+2,hi=>exact absurd (show i+2<2 from hi) KA
 p64:=fun j hj=>by
  match j,hj with
  |0,_=>decide
  |1,_=>decide
  |j+2,hj=>exact absurd (show j+2<2 from hj) KA
 dist:=fun i j h1 h2=>by
  have h3:j<2:=h2;obtain rfl:i=0:=by omega
  obtain rfl:j=1:=by omega
  decide
 falls:=fun i hi=>by
  match i,hi with
  |0,_=>
   refine⟨0,ND,rfl,?_⟩;rw[v10];decide
  |1,_=>
   refine⟨1,ND,rfl,?_⟩;rw[v11];decide
  |i+2,hi=>exact absurd (show i+2<2 from hi) KA
theorem zJ:QU Lv where
 n0:=by decide
 n1:=by decide
 m1:=by decide
 mo1:=by decide
 mo2:=by decide
 mo3:=by decide
 c64:=by decide
 p64:=fun y hy=>by
  rw[AMh.1 hy];decide
 set:=fun k=>rfl
 rise:=fun j h1 h2=>by have:j<1:=h2;omega
 ap:=fun j h1 h2=>by have:j<1:=h2;omega
 last:=by decide
 sw64:=by decide
theorem zI:QU Lu where
 n0:=by decide
 n1:=by decide
 m1:=by decide
 mo1:=by decide
 mo2:=by decide
 mo3:=by decide
 c64:=by decide
 p64:=fun y hy=>by
  rcases AM1.1 hy with rfl|hy
  ·decide
  ·rw[AMh.1 hy];decide
 set:=fun k=>rfl
 rise:=fun j h1 h2=>by
  obtain rfl:j=1:=by have:j<2:=h2;omega
  decide
 ap:=fun j h1 h2=>by
  obtain rfl:j=1:=by have:j<2:=h2;omega
  decide
 last:=by decide
 sw64:=by decide
theorem bM:jN Lv rs0 where
 pt:=rfl
 dg:=Cc 0
 c1:=by decide
 c2:=by decide
 w0:=by decide
 s1:=by decide
 s2:=by decide
 m1:=by decide
 m2:=by decide
 rd:=rd0
 ci:=ci0
 n0:=by decide
 n1:=by decide
 bl:=ANg (ANK (NA:Nat.ble Lv.by_.length 100000=Yy)) ND
 wt:=by decide
 sw:=by decide
 uy:=by decide
 cl:=by decide
 ps:=by kernel_rfl
 sh:=zJ
 pl:=fun j hj=>by
  obtain rfl:j=0:=by have:j<1:=hj;omega
  decide
 co:=AAQ
 sg:=AAm
 sl:=pu
 pa:=ze
theorem all1:jN Lu rs1 where
 pt:=rfl
 dg:=Cc 0
 c1:=by decide
 c2:=by decide
 w0:=by decide
 s1:=by decide
 s2:=by decide
 m1:=by decide
 m2:=by decide
 rd:=rd1
 ci:=ci1
 n0:=by decide
 n1:=by decide
 bl:=ANg (ANK (NA:Nat.ble Lu.by_.length 100000=Yy)) ND
 wt:=by decide
 sw:=by decide
 uy:=by decide
 cl:=by decide
 ps:=by kernel_rfl
 sh:=zI
 pl:=fun j hj=>by
  match j,hj with
  |0,_=>decide
  |1,_=>decide
  |j+2,hj=>exact absurd (show j+2<2 from hj) KA
 co:=AAP
 sg:=AAl
 sl:=pq
 pa:=za
end Kf
def uV (x:Qn):Array Yu:=#[O (AB x.pt),Yg V (x.c:Nat),O (AB x.dg),Yg V (x.r:Nat),Yg V (x.w:Nat),Yg V (x.s:Nat),Yg Yj (x.mo:Nat)]
def WR (x:Qn) (W:J) (e:Ending) (w':J):Prop:=∃(Ar Ac As Ap:Option Addr) (cr cc cs cp nr nc ns np:Nat),
 e=Yi (Ym #[Yr #[O (AB x.rt),Yg V (x.sw:Nat),.slice Ar nr cr,.slice Ac nc cc,.slice As ns cs,.slice Ap np cp],Yr (uV x),Yl Yy])∧But [] W w'∧
 ∀W1,But [] w' W1→Yv Yw 6 #[Yr #[O (AB x.rt),Yg V (x.sw:Nat),.slice Ar nr cr,.slice Ac nc cc,.slice As ns cs,.slice Ap np cp]] W1 fun e w2=>e=Yi (Ym #[O (AB x.by_),Yg Yj 0])∧But [] W1 w2
structure WP (x:Qn) (tn s n:Nat) (wts ps:List Nat):Prop where
 rt:x.rt=KD tn wts
 pt:x.pt=GR tn wts
 dg:x.dg=Bn tn
 c:x.c=n
 r:x.r=1
 w:x.w=1
 s:x.s=1+s%6
 mo:x.mo=640
 sw:x.sw=Ca wts
 rvs:x.rvs=(AU n ps).map (Ka tn wts)
 coins:x.coins=ps
 ls:x.ls=Am (ED tn wts n) (AU n ps)
 lp:x.lp=Am ((CG tn wts n).map Hm) (AU n ps)
 by_:x.by_=Ab (O9 x.rt x.sw x.rvs x.coins x.ls x.lp)
 rt32:x.rt.length=32
 sw64:x.sw<18446744073709551616
 rok:∀y∈x.rvs,y.ok
 rb:∀y∈x.rvs,(Xn y).length≤10000000
 r0:0<x.rvs.length
 r1:x.rvs.length≤10
 co:∀y∈x.coins,y<18446744073709551616
 c0:0<x.coins.length
 c1:x.coins.length≤640
 l1:x.ls.length≤10240
 p1:x.lp.length≤10240
 l32:∀y∈x.ls,y.length=32
 p32:∀y∈x.lp,y.length=32
theorem iX (x:Qn) (tn s n:Nat) (wts ps:List Nat) (h:WP x tn s n wts ps) {W w':J} {e:Ending} (hm:gZ W tn s n wts ps e w'):WR x W e w':=by obtain⟨Ar,Ac,As,Ap,cr,cc,cs,cp,rfl,hb,h1,h2,h3,h4,h5,h6⟩:=hm;refine⟨Ar,Ac,As,Ap,cr,cc,cs,cp,(AU n ps).length,ps.length,(Am (ED tn wts n) (AU n ps)).length,(Am ((CG tn wts n).map Hm) (AU n ps)).length,?_,hb,fun W1 hb1=>?_⟩;(unfold uV;rw[h.rt,h.sw,h.pt,h.c,h.dg,h.r,h.w,h.s,h.mo];rfl);(have e1:(AU n ps).length=x.rvs.length:=by rw[h.rvs,AM8]);(have e2:ps.length=x.coins.length:=by rw[h.coins]);rw[←h.rvs] at h1;rw[←h.ls] at h3 h5⊢;rw[←h.lp] at h4 h6⊢;rw[e1] at h1⊢;rw[e2] at h2⊢;rw[←h.coins] at h2;have k:=dQ x.rt x.sw x.rvs x.coins x.ls x.lp Ac As Ap Ar cc cs cp cr W1 h.rt32 h.sw64 (h1.but hb1) h.rok h.rb h.r0 h.r1 (h2.but hb1) h.co h.c0 h.c1 (h3.but hb1) (h4.but hb1) h5 h6 h.l1 h.p1 h.l32 h.p32;rw[←h.by_] at k;exact k
open Go Go.RowKit
namespace Full
theorem VY (B:Nat) (S:List UInt8) (ho:Fw S=Y) (W:J) (hS:S.length<4000000000000000000) (hT:J4 B W) (hB:B≤W.heap.size) (hE:KH W):
  Yv Yw 70 #[O (AB S)] W fun e w'=>∃p,e=Yi (Ym #[Yr DR,Yo 286 (U (p:Nat))])∧But [] W w':=by have B0:=sq ((APu [] W).alloc (.cells DR 27));have X0:=sq (APw W DR 27);rw[DR] at B0 X0;have HT:=sq hT;have HE:=sq hE;have HSB:=sq (AMc hS hB);have HO:=sq ho;clear hT hE hS hB ho;go_in;go_wp2_with fail;generalize W.alloc (Yk #[O ⟨#[]⟩,Yg V 0,.slice Y 0 0,.slice Y 0 0,.slice Y 0 0,.slice Y 0 0] 27)=W0 at*;generalize hz:W.heap.size=xb at*;refine (Td B S W0 HSB.o.1 (HT.o.below (B0.o.below ACG NC)) (AMj ACG B0.o.size) (HE.o.but B0.o NC)).mono ?_;rintro e w1 ⟨hb1,hE⟩;have X1:=sq (X0.o.but hb1 NC);have B1:=sq (B0.o.trans hb1);have HXZ:Shut (W.heap.size≤xb):=⟨KA⟩;clear hb1 hz;simp only[Lr,HO.o] at hE;obtain⟨p,_,⟨r,n,A2,n2,c2,A3,n3,c3,A4,n4,c4,A5,n5,c5,rfl⟩,rfl⟩:=hE;go_wp2_with fail;refine (Ve r n A2 n2 c2 A3 n3 c3 A4 n4 c4 A5 n5 c5 p w1).mono ?_;rintro e w2 ⟨rfl,hb2⟩;have X2:=sq (X1.o.but hb2 NC);have B2:=sq (B1.o.trans hb2);clear hb2;rw[DR];obtain⟨cl0,cl1,cl2,cl3,cl4,cl5,f0,f1,f2,f3,f4,f5⟩:=AKs;go_wp2_with fail;refine AMo (v:=Ym #[Yr #[O ⟨#[]⟩,Yg V 0,.slice Y 0 0,.slice Y 0 0,.slice Y 0 0,.slice Y 0 0],Yo 286 (U (p:Nat))]) ?_ rfl ?_;(exact AKh);exact⟨p,rfl,KU B2.o HXZ.o⟩
end Full
theorem nS:Full.Fw []=none:=by kernel_rfl
theorem dY (g:Nat) (pt dg:ByteArray) (c r w s:Nat) (mo:Int) (B:Nat) (W:J) (hT:J4 B W) (hB:B≤W.heap.size) (hE:KH W) (hx:AJ W g (Je pt dg ⟨#[]⟩ c r w s mo) 88):
  Yv Yw 33 #[U g] W fun r w'=>r=Yi (Yg Yj 5)∧But [g] W w':=by have RD:=sq (Full.VY B [] nS W ND hT hB hE);have YES:=sq (fun W1=>sI 5 W1);have X0:=sq hx;have c7:W.cell? ⟨g,7,Y⟩=Z (O ⟨#[]⟩):=hx.cell 7 rfl;have l0:=hx.lt;clear hT hB hE hx;go_in;go_wp2_with fail;refine RD.o.mono ?_;rintro r w1 ⟨q,rfl,hb⟩;rw[DR];have X1:=X0.o.but hb NC;have B1:=sq hb;have f8:=X1.frozen 8;have f9:=X1.frozen 9;have f10:=X1.frozen 10;have f11:=X1.frozen 11;have f12:=X1.frozen 12;have f13:=X1.frozen 13;have d8:w1.cell? ⟨g,8,Y⟩=Z (O ⟨#[]⟩):=X1.cell 8 rfl;have d9:w1.cell? ⟨g,9,Y⟩=Z (Yg V 0):=X1.cell 9 rfl;have d10:w1.cell? ⟨g,10,Y⟩=Z (.slice Y 0 0):=X1.cell 10 rfl;have d11:w1.cell? ⟨g,11,Y⟩=Z (.slice Y 0 0):=X1.cell 11 rfl;have d12:w1.cell? ⟨g,12,Y⟩=Z (.slice Y 0 0):=X1.cell 12 rfl;have d13:w1.cell? ⟨g,13,Y⟩=Z (.slice Y 0 0):=X1.cell 13 rfl;have l1:=X1.lt;clear hb RD X0 c7 l0 X1;go_wp2_with fail;have hb5:=sq ((((((((B1.o.nil (L:=[g])).setCell (p:=⟨g,8,Y⟩) (Or.inl NC) (O ⟨#[]⟩)).setCell (p:=⟨g,9,Y⟩) (Or.inl NC) (Yg V 0)).setCell (p:=⟨g,10,Y⟩) (Or.inl NC) (.slice Y 0 0)).setCell (p:=⟨g,11,Y⟩) (Or.inl NC) (.slice Y 0 0)).setCell (p:=⟨g,12,Y⟩) (Or.inl NC) (.slice Y 0 0)).setCell (p:=⟨g,13,Y⟩) (Or.inl NC) (.slice Y 0 0)).alloc (Yk #[O ⟨#[]⟩,Yg V 0,.slice Y 0 0,.slice Y 0 0,.slice Y 0 0,.slice Y 0 0] 27));generalize ((((((w1.setCell ⟨g,8,Y⟩ (O ⟨#[]⟩)).setCell ⟨g,9,Y⟩ (Yg V 0)).setCell ⟨g,10,Y⟩ (.slice Y 0 0)).setCell ⟨g,11,Y⟩ (.slice Y 0 0)).setCell ⟨g,12,Y⟩ (.slice Y 0 0)).setCell ⟨g,13,Y⟩ (.slice Y 0 0)).alloc (Yk #[O ⟨#[]⟩,Yg V 0,.slice Y 0 0,.slice Y 0 0,.slice Y 0 0,.slice Y 0 0] 27)=w5 at*;refine (YES.o _).mono ?_;rintro r w6 ⟨rfl,hw6⟩;rw[hw6];clear hw6 w6;go_wp2_with fail;go_ret;exact⟨rfl,hb5.o⟩
theorem bG (n l m:Int) (W:J):Yv Yw 68 #[Yg V n,Yg V l,Yg V m] W fun r w'=>r=Yi (Yl (decide (l≤n∧n≤m)))∧w'=W:=by by_cases h1:l≤n;(by_cases h2:n≤m;(have q1:n≥l:=h1;rw[ANV (AMc h1 h2)];exact ALn);have q1:n≥l:=h1;rw[ANT (fun h=>h2 h.2)];exact ALn);have q1:¬(n≥l):=h1;rw[ANT (fun h=>h1 h.1)];exact ALn
def WH:List (Nat×Nat×Nat×Nat×Nat×Nat):=[(31,32,3,1,4,640),(32,33,3,1,4,640),(32,32,0,1,4,640),(32,32,65537,1,4,640),(32,32,3,0,4,640),(32,32,3,1,0,640),(32,32,3,1,257,640),(32,32,3,1,4,0),(32,32,3,1,4,641),(0,0,0,0,0,0)]
theorem rE (g:Nat) (pt dg by_:ByteArray) (c r w s mo:Nat) (W:J) (h:(pt.size,dg.size,c,w,s,mo)∈WH) (hx:AJ W g (Je pt dg by_ c r w s (mo:Nat)) 88):
  Yv Yw 32 #[U g] W fun r w'=>r=Yi (Yg Yj 2)∧w'=W:=by
 obtain⟨c0,c1,c2,c4,c5,c6⟩:=AGW;have BW:=sq (fun (n l m:Int) (W1:J)=>bG n l m W1);have NO:=sq (fun W1=>sI 2 W1);clear hx;simp only[WH,AM1,ANJ,AN2,AOH] at h;rcases h with⟨hp,hd,rfl,rfl,rfl,rfl⟩|⟨hp,hd,rfl,rfl,rfl,rfl⟩|⟨hp,hd,rfl,rfl,rfl,rfl⟩|⟨hp,hd,rfl,rfl,rfl,rfl⟩|⟨hp,hd,rfl,rfl,rfl,rfl⟩|⟨hp,hd,rfl,rfl,rfl,rfl⟩|⟨hp,hd,rfl,rfl,rfl,rfl⟩|⟨hp,hd,rfl,rfl,rfl,rfl⟩|⟨hp,hd,rfl,rfl,rfl,rfl⟩|⟨hp,hd,rfl,rfl,rfl,rfl⟩
 all_goals
  go_in;go_wp2_with fail;refine (BW.o _ _ _ _).mono ?_;rintro r w1 ⟨rfl,hw1⟩;rw[hw1];clear hw1 w1
  try simp only[Int.reduceLE,Int.reduceNeg,and_true,APL,and_self,and_false,false_and,decide_true,decide_false]
  go_wp2_with fail
  first
  |(refine (NO.o _).mono ?_
    rintro r w1 ⟨rfl,hw1⟩;rw[hw1];clear hw1 w1;go_wp2_with fail;go_ret;exact⟨rfl,rfl⟩)
  |(refine (BW.o _ _ _ _).mono ?_
    rintro r w1 ⟨rfl,hw1⟩;rw[hw1];clear hw1 w1
    try simp only[Int.reduceLE,Int.reduceNeg,and_true,APL,and_self,and_false,false_and,decide_true,decide_false]
    go_wp2_with fail;refine (NO.o _).mono ?_;rintro r w1 ⟨rfl,hw1⟩;rw[hw1];clear hw1 w1;go_wp2_with fail;go_ret;exact⟨rfl,rfl⟩)
theorem EH (pt dg by_:ByteArray) (c r w s mo:Nat) (W:J) (h:(pt.size,dg.size,c,w,s,mo)∈WH):
  Yv Yw 7 #[.string by_,Yr #[.string pt,Yg V c,.string dg,Yg V (r:Nat),Yg V w,Yg V s,Yg Yj mo]] W fun r w'=>r=Yi (Yg Yj 2)∧But [] W w':=
 O8 pt dg by_ c r w s (mo:Nat) 0 2 W (Or.inr ⟨ND,ND⟩) fun w2 q hb hlt hq=>⟨fun _ W'=>W'=w2,rfl,fun j wr hw=>by rw[hw];exact APu _ _,fun j hj=>absurd hj KA,fun _ wr hw=>by
  subst hw;exact (rE q pt dg by_ c r w s mo _ h hq).mono fun e w' k=>⟨k.1,by rw[k.2];exact APu _ _⟩⟩
theorem gM (pt dg:ByteArray) (c r w s:Nat) (mo:Int) (B:Nat) (W:J) (hT:J4 B W) (hB:B≤W.heap.size) (hE:KH W) (hp:pt.size=32) (hd:dg.size=32) (hc1:1≤c) (hc2:c≤65536) (hw:0<w) (hs1:1≤s) (hs2:s≤256) (hm1:1≤mo) (hm2:mo≤640):
  Yv Yw 7 #[O ⟨#[]⟩,Yr #[.string pt,Yg V c,.string dg,Yg V (r:Nat),Yg V w,Yg V s,Yg Yj mo]] W fun r w'=>r=Yi (Yg Yj 5)∧But [] W w':=
 O8 pt dg ⟨#[]⟩ c r w s mo 1 5 W (Or.inr ⟨ND,ND⟩) fun w2 q hb hlt hq=>⟨fun _ W'=>W'=w2,rfl,fun j wr hw=>by rw[hw];exact APu _ _,fun j hj wr hw=>by
   obtain rfl:j=0:=by omega
   subst hw;exact (iN q pt dg ⟨#[]⟩ c r w s mo _ hq hp hd hc1 hc2 hw hs1 hs2 hm1 hm2).mono fun e w' k=>k,fun _ wr hw=>by
   subst hw;exact dY q pt dg c r w s mo B _ (hT.below (hb.below hB NC)) (AMj hB hb.size) (hE.but hb NC) hq⟩
structure oO (B:Nat) (W:J):Prop where
 tabs:J4 B W
 pack:Eg B W
 low:B≤W.heap.size
 err:KH W
theorem oO.but {B:Nat} {W W':J} (h:oO B W) (hb:But [] W W'):oO B W':=
 ⟨h.tabs.below (hb.below h.low NC),h.pack.but hb,AMj h.low hb.size,h.err.but hb NC⟩
theorem jE (W:J) (l:List Nat):uo (W.alloc (Yk (l.map fun n=>Value.int .u8 (n:Nat)).toArray 5)) (Z ⟨W.heap.size,0,Y⟩) l:=fun i hi=>⟨W.heap.size,0,rfl,by
 have h:=APw W (l.map fun n=>Value.int .u8 (n:Nat)).toArray 5;rw[ANC];refine h.cell i ?_;rw[ANs,ANI,AMe hi,AMd,AMe hi];rfl⟩
theorem ou (x:Qn) (W:J)
  (hm:∀A W1,uo W1 A [9]→Yv Yw 4 #[Yr #[.slice A 1 1,Yg Yq 1,Yg Yq 0,Yg Yq 2,Yg Yq 0,Yg Yq 0]] W1 fun e w'=>WR x W1 e w')
  (h1:∀w,But [] W w→Yv Yw 7 #[O (AB x.by_),Yr (uV x)] w fun r w'=>r=Yi (Yg Yj 0)∧But [] w w')
  (h2:∀w,But [] W w→Yv Yw 7 #[O ⟨#[]⟩,Yr (uV x)] w fun r w'=>r=Yi (Yg Yj 5)∧But [] w w')
  (h3:∀w,But [] W w→Yv Yw 7 #[O (AB x.by_),Yr #[O ⟨#[]⟩,Yg V 0,O ⟨#[]⟩,Yg V 0,Yg V 0,Yg V 0,Yg Yj 0]] w fun r w'=>r=Yi (Yg Yj 2)∧But [] w w'):
  Yv Yw 5 #[] W fun e w'=>e=Yi (Yl Yy)∧But [] W w':=by have HM:=sq (hm (Z ⟨W.heap.size,0,Y⟩) _ (jE W [9]));have H1:=sq h1;have H2:=sq h2;have H3:=sq h3;have B0:=sq ((APu [] W).alloc (Yk #[Yg Yq 9] 5));clear hm h1 h2 h3;go_in;go_wp2_with fail;refine HM.o.mono ?_;rintro e w1 ⟨Ar,Ac,As,Ap,cr,cc,cs,cp,nr,nc,ns,np,rfl,hb,hcert⟩;unfold uV at*;have HC:=sq hcert;have B1:=AJr;clear hb hcert HM;generalize AB x.by_=zb at*;generalize AB x.rt=zr at*;generalize AB x.pt=zp at*;generalize AB x.dg=zd at*;generalize x.sw=xs at*;generalize x.c=xc at*;generalize x.r=xr at*;generalize x.w=xw at*;generalize x.s=xss at*;generalize x.mo=xm at*;go_upto_region 2 with fail;have X1:=sq ((APw w1 #[.string zr,Yg V xs,.slice Ar nr cr,.slice Ac nc cc,.slice As ns cs,.slice Ap np cp] 27).alloc (Yk #[.string zp,Yg V xc,.string zd,Yg V xr,Yg V xw,Yg V xss,Yg Yj xm] 29));have X2':=APw (w1.alloc (Yk #[.string zr,Yg V xs,.slice Ar nr cr,.slice Ac nc cc,.slice As ns cs,.slice Ap np cp] 27)) #[.string zp,Yg V xc,.string zd,Yg V xr,Yg V xw,Yg V xss,Yg Yj xm] 29;rw[AMk] at X2';have X2:=sq X2';have BB:=sq (((APu [] w1).alloc (Yk #[.string zr,Yg V xs,.slice Ar nr cr,.slice Ac nc cc,.slice As ns cs,.slice Ap np cp] 27)).alloc (Yk #[.string zp,Yg V xc,.string zd,Yg V xr,Yg V xw,Yg V xss,Yg Yj xm] 29));clear X2';generalize (w1.alloc (Yk #[.string zr,Yg V xs,.slice Ar nr cr,.slice Ac nc cc,.slice As ns cs,.slice Ap np cp] 27)).alloc (Yk #[.string zp,Yg V xc,.string zd,Yg V xr,Yg V xw,Yg V xss,Yg Yj xm] 29)=w2 at*;generalize w1.heap.size=g1 at*;have c0:=X1.o.cell 0 rfl;have c1:=X1.o.cell 1 rfl;have c2:=X1.o.cell 2 rfl;have c3:=X1.o.cell 3 rfl;have c4:=X1.o.cell 4 rfl;have c5:=X1.o.cell 5 rfl;have lc:=X1.o.lt;have HC2:=sq (HC.o w2 BB.o);have B2:=sq (B1.o.trans BB.o);clear HC BB B1;go_wp2_with fail;refine HC2.o.mono ?_;rintro e w3 ⟨rfl,hb⟩;have X3:=sq (X2.o.but hb NC);have B3:=sq (B2.o.trans hb);clear hb HC2 X1 X2 B2 c0 c1 c2 c3 c4 c5 lc;have a0:=X3.o.cell 0 rfl;have a1:=X3.o.cell 1 rfl;have a2:=X3.o.cell 2 rfl;have a3:=X3.o.cell 3 rfl;have a4:=X3.o.cell 4 rfl;have a5:=X3.o.cell 5 rfl;have a6:=X3.o.cell 6 rfl;have la:=X3.o.lt;go_wp2_with fail;refine (H1.o _ B3.o).mono ?_;rintro e w4 ⟨rfl,hb⟩;have X4:=sq (X3.o.but hb NC);have B4:=sq (B3.o.trans hb);clear hb X3 B3 a0 a1 a2 a3 a4 a5 a6 la;have a0:=X4.o.cell 0 rfl;have a1:=X4.o.cell 1 rfl;have a2:=X4.o.cell 2 rfl;have a3:=X4.o.cell 3 rfl;have a4:=X4.o.cell 4 rfl;have a5:=X4.o.cell 5 rfl;have a6:=X4.o.cell 6 rfl;have la:=X4.o.lt;go_wp2_with fail;refine (H2.o _ B4.o).mono ?_;rintro e w5 ⟨rfl,hb⟩;have B5:=sq (B4.o.trans hb);clear hb X4 B4 a0 a1 a2 a3 a4 a5 a6 la;go_wp2_with fail;refine (H3.o _ B5.o).mono ?_;rintro e w6 ⟨rfl,hb⟩;have B6:=sq (B5.o.trans hb);clear hb B5;go_wp2_with fail;go_ret;exact⟨rfl,B6.o⟩
namespace Kf
open Qk
theorem ch0:AU 1 [0]=[0]:=by decide
theorem ch1:AU 3 [1,2]=[1,2]:=by decide
theorem zM (r:Rv) (h:OH r) (hp:r.p<18446744073709551616):r.ok:=⟨hp,h.L64,h.i64,h.w67,h.p16,h.sw,h.sp,h.pt.1,h.pt.2.2.1,h.pt.2.2.2.1,h.pt.2.2.2.2.1,h.pt.2.2.2.2.2⟩
theorem wr0:WP Lv 0 2 1 [9] [0] where
 rt:=cr0.symm
 pt:=AA3.symm
 dg:=rfl
 c:=rfl
 r:=rfl
 w:=rfl
 s:=rfl
 mo:=rfl
 sw:=by decide
 rvs:=by
  rw[ch0];show [oV]=[Ka 0 [9] 0]
  rw[qa]
 coins:=rfl
 ls:=by
  rw[ch0,ABX];rfl
 lp:=by
  rw[ch0,ABN];rfl
 by_:=rfl
 rt32:=rfl
 sw64:=by decide
 rok:=fun y hy=>by
  rw[AMh.1 hy];exact zM oV zx ND
 rb:=fun y hy=>by
  rw[AMh.1 hy];exact ANK NA
 r0:=by decide
 r1:=by decide
 co:=by decide
 c0:=by decide
 c1:=by decide
 l1:=by decide
 p1:=by decide
 l32:=fun y hy=>by cases hy
 p32:=fun y hy=>by cases hy
theorem wr1:WP Lu 0 3 3 [1,2,3] [1,2] where
 rt:=cr1.symm
 pt:=AA2.symm
 dg:=rfl
 c:=rfl
 r:=rfl
 w:=rfl
 s:=rfl
 mo:=rfl
 sw:=by decide
 rvs:=by
  rw[ch1];show [oU,oQ]=[Ka 0 [1,2,3] 1,Ka 0 [1,2,3] 2]
  rw[qZ,qY]
 coins:=rfl
 ls:=by
  rw[ch1];exact zn.symm
 lp:=by
  rw[ch1];exact zo.symm
 by_:=rfl
 rt32:=rfl
 sw64:=by decide
 rok:=fun y hy=>by
  rcases AM1.1 hy with rfl|hy
  ·exact zM oU zw ND
  ·rw[AMh.1 hy];exact zM oQ zu ND
 rb:=fun y hy=>by
  rcases AM1.1 hy with rfl|hy
  ·exact ANK NA
  ·rw[AMh.1 hy];exact ANK NA
 r0:=by decide
 r1:=by decide
 co:=by decide
 c0:=by decide
 c1:=by decide
 l1:=by decide
 p1:=by decide
 l32:=fun y hy=>by
  rcases AM1.1 hy with rfl|hy
  ·rfl
  ·rw[AMh.1 hy];rfl
 p32:=fun y hy=>by
  rcases AM1.1 hy with rfl|hy
  ·rfl
  ·rw[AMh.1 hy];rfl
end Kf
theorem zm (A:Option Addr) (W:J) (h:uo W A [9]):Yv Yw 4 #[Yr #[.slice A 1 1,Yg Yq 1,Yg Yq 0,Yg Yq 2,Yg Yq 0,Yg Yq 0]] W fun e w'=>WR Kf.Lv W e w':=
 (Tw [9] [0] A 1 1 1 2 0 W h (AMi _) Kf.sc0).mono fun e w' hm=>iX Kf.Lv 0 2 1 [9] [0] Kf.wr0 hm
theorem zk (A:Option Addr) (W:J) (h:uo W A [1,2,3]):Yv Yw 4 #[Yr #[.slice A 3 3,Yg Yq 7,Yg Yq 0,Yg Yq 3,Yg Yq 0,Yg Yq 0]] W fun e w'=>WR Kf.Lu W e w':=
 (Tw [1,2,3] [1,2] A 3 3 7 3 0 W h (AMi _) Kf.sc1).mono fun e w' hm=>iX Kf.Lu 0 3 3 [1,2,3] [1,2] Kf.wr1 hm
theorem bT (B:Nat) (W:J) (hE:oO B W):Yv Yw 5 #[] W fun e w'=>e=Yi (Yl Yy)∧But [] W w':=
 ou Kf.Lv W zm (fun w hb=>bA Kf.Lv Kf.rs0 Kf.bM B w (hE.but hb).tabs (hE.but hb).low (hE.but hb).err (hE.but hb).pack)
  (fun w hb=>gM (AB Kf.Lv.pt) (AB Kf.Lv.dg) Kf.Lv.c Kf.Lv.r Kf.Lv.w Kf.Lv.s (Kf.Lv.mo:Nat) B w (hE.but hb).tabs (hE.but hb).low (hE.but hb).err (by rw[AQ];exact Kf.bM.pt) (by rw[AQ];exact Kf.bM.dg) Kf.bM.c1 Kf.bM.c2 Kf.bM.w0 Kf.bM.s1 Kf.bM.s2 ND ND)
  (fun w hb=>EH ⟨#[]⟩ ⟨#[]⟩ (AB Kf.Lv.by_) 0 0 0 0 0 w ND)
end Go.Proofs.YtiapejgiinidhaaGreatDoor
